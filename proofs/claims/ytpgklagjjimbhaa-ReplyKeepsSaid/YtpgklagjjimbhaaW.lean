/- YtpgklagjjimbhaaW: what rejects carry. No claim. -/
import Derived.Test.YtpgklagjjimbhaaM
import Derived.Test.YtpgklagjjimbhaaN
set_option linter.unusedVariables false
set_option linter.unusedSimpArgs false
set_option maxRecDepth 100000
namespace Go.Proofs.Ytpgklagjjimbhaa
open Go Go.Proofs.Ytpgklagjjimbhaa.V

def fitM (mru : Int) : Nat := min mru.toNat 65531
theorem fit_any (mru : Int) (m : Bool) : Runs Try.prog env 100 [.pure m (.int .i64 mru)] [] (.pure true (.int .i64 (fitM mru : Nat))) [] := by
  refine Runs.of Try.func100 rfl (by simp [Try.ntmps100]) ?_
  unfold fitM
  rcases Classical.em (mru < 0) with h1 | h1
  · simp (maxSteps := 400000) -dsimp -implicitDefEqProofs (disch := first | exact TrueB.mk rfl | omega) only [go_sem, Nat.reduceMul, Nat.reduceAdd, Nat.reduceLT, Nat.reduceLeDiff, Nat.reducePow, Nat.reduceEqDiff, ↓reduceIte, reduceCtorEq, Int.reduceToNat, Try.ntmps100, callB, minV, maxV]
    first | exact end_int rfl (by omega) | done
  · rcases Classical.em (65531 < mru) with h2 | h2
    · simp (maxSteps := 400000) -dsimp -implicitDefEqProofs (disch := first | exact TrueB.mk rfl | omega) only [go_sem, Nat.reduceMul, Nat.reduceAdd, Nat.reduceLT, Nat.reduceLeDiff, Nat.reducePow, Nat.reduceEqDiff, ↓reduceIte, reduceCtorEq, Int.reduceToNat, Try.ntmps100, callB, minV, maxV]
      first | exact end_int rfl (by omega) | done
    · simp (maxSteps := 400000) -dsimp -implicitDefEqProofs (disch := first | exact TrueB.mk rfl | omega) only [go_sem, Nat.reduceMul, Nat.reduceAdd, Nat.reduceLT, Nat.reduceLeDiff, Nat.reducePow, Nat.reduceEqDiff, ↓reduceIte, reduceCtorEq, Int.reduceToNat, Try.ntmps100, callB, minV, maxV]
      first | exact end_int rfl (by omega) | done

set_option maxHeartbeats 4000000 in
theorem rcut_any (b : List UInt8) (hb : b.length ≤ 1000000) (n : Int) (hn : -1000000 ≤ n) (hn' : n ≤ 1000000) (m m' : Bool) : Runs Try.prog env 99 [.pure m (.sl (bytesOf b)), .pure m' (.int .i64 n)] [] (.row 0 (b.take n.toNat).length) [(0, .row true 1 0 (bytesOf (b.take n.toNat)))] := by
  have key : ∀ k : Nat, k = min n.toNat b.length → b.take n.toNat = b.take k := by
    intro k hk
    subst hk
    rw [← List.take_take, List.take_length]
  rcases Classical.em (n < 0) with h1 | h1
  · rw [key 0 (by omega)]
    have c := cut_ok b (by omega) 0 0 (by omega)
    rw [List.drop_zero] at c
    refine Runs.of Try.func99 rfl (by simp [Try.ntmps99]) ?_
    simp (maxSteps := 400000) -dsimp -implicitDefEqProofs (disch := first | exact TrueB.mk rfl | omega) only [go_sem, Nat.reduceMul, Nat.reduceAdd, Nat.reduceLT, Nat.reduceLeDiff, Nat.reducePow, Nat.reduceEqDiff, ↓reduceIte, reduceCtorEq, Int.reduceToNat, Try.ntmps99, callB, minV, maxV]
    first | refine wpAct_callG (c _ _ _) rfl rfl rfl rfl rfl rfl rfl rfl rfl ?_ | done
    simp (maxSteps := 400000) -dsimp -implicitDefEqProofs (disch := first | exact TrueB.mk rfl | omega) only [go_sem, Nat.reduceMul, Nat.reduceAdd, Nat.reduceLT, Nat.reduceLeDiff, Nat.reducePow, Nat.reduceEqDiff, ↓reduceIte, reduceCtorEq, Int.reduceToNat]
    first | exact end_row rfl rfl rfl rfl | done
  · rcases Classical.em ((b.length : Int) < n) with h2 | h2
    · rw [key b.length (by omega)]
      have c := cut_ok b (by omega) 0 b.length (by omega)
      rw [List.drop_zero] at c
      refine Runs.of Try.func99 rfl (by simp [Try.ntmps99]) ?_
      simp (maxSteps := 400000) -dsimp -implicitDefEqProofs (disch := first | exact TrueB.mk rfl | omega) only [go_sem, Nat.reduceMul, Nat.reduceAdd, Nat.reduceLT, Nat.reduceLeDiff, Nat.reducePow, Nat.reduceEqDiff, ↓reduceIte, reduceCtorEq, Int.reduceToNat, Try.ntmps99, callB, minV, maxV]
      first | refine wpAct_callG (c _ _ _) rfl rfl rfl rfl rfl rfl rfl rfl rfl ?_ | done
      simp (maxSteps := 400000) -dsimp -implicitDefEqProofs (disch := first | exact TrueB.mk rfl | omega) only [go_sem, Nat.reduceMul, Nat.reduceAdd, Nat.reduceLT, Nat.reduceLeDiff, Nat.reducePow, Nat.reduceEqDiff, ↓reduceIte, reduceCtorEq, Int.reduceToNat]
      first | exact end_row rfl rfl (by rw [bytesOf_length]) (allScalar_bytesOf _) | done
    · obtain ⟨k, rfl⟩ : ∃ k : Nat, n = k := ⟨n.toNat, by omega⟩
      rw [Int.toNat_natCast]
      have c := cut_ok b (by omega) 0 k (by omega)
      rw [List.drop_zero] at c
      refine Runs.of Try.func99 rfl (by simp [Try.ntmps99]) ?_
      simp (maxSteps := 400000) -dsimp -implicitDefEqProofs (disch := first | exact TrueB.mk rfl | omega) only [go_sem, Nat.reduceMul, Nat.reduceAdd, Nat.reduceLT, Nat.reduceLeDiff, Nat.reducePow, Nat.reduceEqDiff, ↓reduceIte, reduceCtorEq, Int.reduceToNat, Try.ntmps99, callB, minV, maxV]
      first | refine wpAct_callG (c _ _ _) rfl rfl rfl rfl rfl rfl rfl rfl rfl ?_ | done
      simp (maxSteps := 400000) -dsimp -implicitDefEqProofs (disch := first | exact TrueB.mk rfl | omega) only [go_sem, Nat.reduceMul, Nat.reduceAdd, Nat.reduceLT, Nat.reduceLeDiff, Nat.reducePow, Nat.reduceEqDiff, ↓reduceIte, reduceCtorEq, Int.reduceToNat]
      first | exact end_row rfl rfl (by rw [bytesOf_length]) (allScalar_bytesOf _) | done

theorem zB_or (l : List UInt8) : (if l = [] then 0 else 1) = 1 ∨ l = [] := by split <;> simp_all
set_option maxHeartbeats 4000000 in
theorem refCut_any (b : List UInt8) (hb : b.length ≤ 1000000) (n : Int) (m m' : Bool) : Runs Try.prog env 102 [.pure m (.sl (bytesOf b)), .pure m' (.int .i64 n)] [] (.row 0 (b.take n.toNat).length) [(0, .row true (if b.take n.toNat = [] then 0 else 1) 0 (bytesOf (b.take n.toNat)))] := by
  refine Runs.of Try.func102 rfl (by simp [Try.ntmps102]) ?_
  simp (maxSteps := 400000) -dsimp -implicitDefEqProofs (disch := first | exact TrueB.mk rfl | omega) only [go_sem, Nat.reduceMul, Nat.reduceAdd, Nat.reduceLT, Nat.reduceLeDiff, Nat.reducePow, Nat.reduceEqDiff, ↓reduceIte, reduceCtorEq, Int.reduceToNat, Try.ntmps102]
  refine wpLoop_ind (α := Nat × Nat)
    (fun a => ⟨[(0, .pure m (.sl (bytesOf b))), (1, .pure m' (.int .i64 n)), (5, .row 416 (b.take a.1).length), (6, .pure true (.int .i64 a.1))], [(416, .row true (if b.take a.1 = [] then 0 else 1) a.2 (bytesOf (b.take a.1)))]⟩)
    (fun a => a.1 ≤ b.length ∧ a.1 ≤ n.toNat) (fun a => b.length - a.1) ?_ (0, 0) ⟨by simp, by simp⟩ rfl
  rintro ⟨i, lim⟩ ⟨hi, hi2⟩
  simp only at hi hi2
  have hlen : (b.take i).length = i := by rw [List.length_take]; omega
  have hz : (if b.take i = [] then 0 else 1) = 1 ∨ (if b.take i = [] then 0 else 1) = 0 := by split <;> simp
  simp (maxSteps := 400000) -dsimp -implicitDefEqProofs (disch := first | exact TrueB.mk rfl | omega) only [go_sem, Nat.reduceMul, Nat.reduceAdd, Nat.reduceLT, Nat.reduceLeDiff, Nat.reducePow, Nat.reduceEqDiff, ↓reduceIte, reduceCtorEq, Int.reduceToNat]
  first | refine condK_dec (fun h1 => ?_) (fun h1 => ?_) | refine condK_ndec (fun h1 => ?_) (fun h1 => ?_) | refine condK_beq (fun h1 => ?_) (fun h1 => ?_) | refine condK_bne (fun h1 => ?_) (fun h1 => ?_) | refine condK_nbeq (fun h1 => ?_) (fun h1 => ?_) | refine guardK_dec (fun h1 => ?_) (fun h1 => ?_) | refine guardK_ndec (fun h1 => ?_) (fun h1 => ?_) | refine guardK_beq (fun h1 => ?_) (fun h1 => ?_) | refine guardK_bne (fun h1 => ?_) (fun h1 => ?_) | refine guardK_nbeq (fun h1 => ?_) (fun h1 => ?_) | refine condK_not (fun h1 => ?_) (fun h1 => ?_) | refine guardK_not (fun h1 => ?_) (fun h1 => ?_) | refine condK_bool (fun h1 => ?_) (fun h1 => ?_) | refine guardK_bool (fun h1 => ?_) (fun h1 => ?_) | done
  · simp (maxSteps := 400000) -dsimp -implicitDefEqProofs (disch := first | exact TrueB.mk rfl | omega) only [go_sem, Nat.reduceMul, Nat.reduceAdd, Nat.reduceLT, Nat.reduceLeDiff, Nat.reducePow, Nat.reduceEqDiff, ↓reduceIte, reduceCtorEq, Int.reduceToNat]
    first | refine condK_dec (fun h2 => ?_) (fun h2 => ?_) | refine condK_ndec (fun h2 => ?_) (fun h2 => ?_) | refine condK_beq (fun h2 => ?_) (fun h2 => ?_) | refine condK_bne (fun h2 => ?_) (fun h2 => ?_) | refine condK_nbeq (fun h2 => ?_) (fun h2 => ?_) | refine guardK_dec (fun h2 => ?_) (fun h2 => ?_) | refine guardK_ndec (fun h2 => ?_) (fun h2 => ?_) | refine guardK_beq (fun h2 => ?_) (fun h2 => ?_) | refine guardK_bne (fun h2 => ?_) (fun h2 => ?_) | refine guardK_nbeq (fun h2 => ?_) (fun h2 => ?_) | refine condK_not (fun h2 => ?_) (fun h2 => ?_) | refine guardK_not (fun h2 => ?_) (fun h2 => ?_) | refine condK_bool (fun h2 => ?_) (fun h2 => ?_) | refine guardK_bool (fun h2 => ?_) (fun h2 => ?_) | done
    · have hlt : i < b.length := by omega
      have g1 : (bytesOf b)[i]? = some (.int .u8 b[i].toNat) := by rw [bytesOf_get, List.getElem?_eq_getElem hlt]; rfl
      have htk := List.take_append_getElem hlt
      have hne : b.take (i + 1) ≠ [] := by
        intro e
        have h := congrArg List.length e
        rw [List.length_take, List.length_nil] at h
        omega
      simp (maxSteps := 400000) -dsimp -implicitDefEqProofs (disch := first | exact TrueB.mk rfl | omega) only [go_sem, Nat.reduceMul, Nat.reduceAdd, Nat.reduceLT, Nat.reduceLeDiff, Nat.reducePow, Nat.reduceEqDiff, ↓reduceIte, reduceCtorEq, Int.reduceToNat, g1, hz]
      refine again_mk ⟨(i + 1, (b.take i).length), ⟨by show i + 1 ≤ _; omega, by show i + 1 ≤ _; omega⟩, by show _ - (i + 1) < _ - i; omega, ?_⟩
      simp only [if_neg hne]
      simp only [← htk, List.length_append, List.length_cons, List.length_nil]
      rfl
    · have : n.toNat = i := by omega
      rw [this]
      simp (maxSteps := 400000) -dsimp -implicitDefEqProofs (disch := first | exact TrueB.mk rfl | omega) only [go_sem, Nat.reduceMul, Nat.reduceAdd, Nat.reduceLT, Nat.reduceLeDiff, Nat.reducePow, Nat.reduceEqDiff, ↓reduceIte, reduceCtorEq, Int.reduceToNat]
      first | exact end_row rfl rfl (by rw [bytesOf_length]) (allScalar_bytesOf _) | done
  · have : b.take n.toNat = b.take i := by rw [List.take_of_length_le (show b.length ≤ n.toNat by omega), List.take_of_length_le (show b.length ≤ i by omega)]
    rw [this]
    simp (maxSteps := 400000) -dsimp -implicitDefEqProofs (disch := first | exact TrueB.mk rfl | omega) only [go_sem, Nat.reduceMul, Nat.reduceAdd, Nat.reduceLT, Nat.reduceLeDiff, Nat.reducePow, Nat.reduceEqDiff, ↓reduceIte, reduceCtorEq, Int.reduceToNat]
    first | exact end_row rfl rfl (by rw [bytesOf_length]) (allScalar_bytesOf _) | done

theorem codeReject_any (b : List UInt8) (hb : b.length ≤ 1000000) (mru : Int) (m m' : Bool) : Runs Try.prog env 76 [.pure m (.sl (bytesOf b)), .pure m' (.int .i64 mru)] [] (.row 0 (b.take (fitM mru - 4)).length) [(0, .row true 1 0 (bytesOf (b.take (fitM mru - 4))))] := by
  have hf : fitM mru ≤ 65531 := Nat.min_le_right _ _
  have c := rcut_any b hb ((fitM mru : Int) - 4) (by omega) (by omega)
  have e : ((fitM mru : Int) - 4).toNat = fitM mru - 4 := by omega
  rw [e] at c
  refine Runs.of Try.func76 rfl (by simp [Try.ntmps76]) ?_
  simp (maxSteps := 400000) -dsimp -implicitDefEqProofs (disch := first | exact TrueB.mk rfl | omega) only [go_sem, Nat.reduceMul, Nat.reduceAdd, Nat.reduceLT, Nat.reduceLeDiff, Nat.reducePow, Nat.reduceEqDiff, ↓reduceIte, reduceCtorEq, Int.reduceToNat, Try.ntmps76]
  first | refine wpAct_call0 (fit_any mru _) rfl rfl rfl rfl rfl rfl rfl rfl ?_ | done
  simp (maxSteps := 400000) -dsimp -implicitDefEqProofs (disch := first | exact TrueB.mk rfl | omega) only [go_sem, Nat.reduceMul, Nat.reduceAdd, Nat.reduceLT, Nat.reduceLeDiff, Nat.reducePow, Nat.reduceEqDiff, ↓reduceIte, reduceCtorEq, Int.reduceToNat]
  first | refine wpAct_callG (c _ _) rfl rfl rfl rfl rfl rfl rfl rfl rfl ?_ | done
  simp (maxSteps := 400000) -dsimp -implicitDefEqProofs (disch := first | exact TrueB.mk rfl | omega) only [go_sem, Nat.reduceMul, Nat.reduceAdd, Nat.reduceLT, Nat.reduceLeDiff, Nat.reducePow, Nat.reduceEqDiff, ↓reduceIte, reduceCtorEq, Int.reduceToNat]
  first | exact end_row rfl rfl (by rw [bytesOf_length]) (allScalar_bytesOf _) | done

set_option maxHeartbeats 4000000 in
theorem refCodeReject_any (b : List UInt8) (hb : b.length ≤ 1000000) (mru : Int) (m m' : Bool) : ∃ z, (z = 1 ∨ b.take (fitM mru - 4) = []) ∧ Runs Try.prog env 78 [.pure m (.sl (bytesOf b)), .pure m' (.int .i64 mru)] [] (.row 0 (b.take (fitM mru - 4)).length) [(0, .row true z 0 (bytesOf (b.take (fitM mru - 4))))] := by
  have hf : fitM mru = min mru.toNat 65531 := rfl
  rcases Classical.em (mru < 4) with h1 | h1
  · have e : b.take (fitM mru - 4) = [] := by
      have : fitM mru - 4 = 0 := by omega
      rw [this]; rfl
    rw [e]
    refine ⟨0, .inr rfl, ?_⟩
    refine Runs.of Try.func78 rfl (by simp [Try.ntmps78]) ?_
    simp (maxSteps := 400000) -dsimp -implicitDefEqProofs (disch := first | exact TrueB.mk rfl | omega) only [go_sem, Nat.reduceMul, Nat.reduceAdd, Nat.reduceLT, Nat.reduceLeDiff, Nat.reducePow, Nat.reduceEqDiff, ↓reduceIte, reduceCtorEq, Int.reduceToNat, Try.ntmps78]
    first | exact end_row rfl rfl rfl rfl | done
  · rcases Classical.em (65531 < mru) with h2 | h2
    · have c := refCut_any b hb (65531 - 4)
      have e : ((65531 : Int) - 4).toNat = fitM mru - 4 := by omega
      rw [e] at c
      refine ⟨_, zB_or _, ?_⟩
      refine Runs.of Try.func78 rfl (by simp [Try.ntmps78]) ?_
      simp (maxSteps := 400000) -dsimp -implicitDefEqProofs (disch := first | exact TrueB.mk rfl | omega) only [go_sem, Nat.reduceMul, Nat.reduceAdd, Nat.reduceLT, Nat.reduceLeDiff, Nat.reducePow, Nat.reduceEqDiff, ↓reduceIte, reduceCtorEq, Int.reduceToNat, Try.ntmps78]
      first | refine wpAct_callG (c _ _) rfl rfl rfl rfl rfl rfl rfl rfl rfl ?_ | done
      simp (maxSteps := 400000) -dsimp -implicitDefEqProofs (disch := first | exact TrueB.mk rfl | omega) only [go_sem, Nat.reduceMul, Nat.reduceAdd, Nat.reduceLT, Nat.reduceLeDiff, Nat.reducePow, Nat.reduceEqDiff, ↓reduceIte, reduceCtorEq, Int.reduceToNat]
      first | exact end_row rfl rfl (by rw [bytesOf_length]) (allScalar_bytesOf _) | done
    · have c := refCut_any b hb (mru - 4)
      have e : (mru - 4).toNat = fitM mru - 4 := by omega
      rw [e] at c
      refine ⟨_, zB_or _, ?_⟩
      refine Runs.of Try.func78 rfl (by simp [Try.ntmps78]) ?_
      simp (maxSteps := 400000) -dsimp -implicitDefEqProofs (disch := first | exact TrueB.mk rfl | omega) only [go_sem, Nat.reduceMul, Nat.reduceAdd, Nat.reduceLT, Nat.reduceLeDiff, Nat.reducePow, Nat.reduceEqDiff, ↓reduceIte, reduceCtorEq, Int.reduceToNat, Try.ntmps78]
      first | refine wpAct_callG (c _ _) rfl rfl rfl rfl rfl rfl rfl rfl rfl ?_ | done
      simp (maxSteps := 400000) -dsimp -implicitDefEqProofs (disch := first | exact TrueB.mk rfl | omega) only [go_sem, Nat.reduceMul, Nat.reduceAdd, Nat.reduceLT, Nat.reduceLeDiff, Nat.reducePow, Nat.reduceEqDiff, ↓reduceIte, reduceCtorEq, Int.reduceToNat]
      first | exact end_row rfl rfl (by rw [bytesOf_length]) (allScalar_bytesOf _) | done

/-! ### the protocol's number -/
def hiB (n : Nat) : UInt8 := UInt8.ofNat (n / 256)
def loB (n : Nat) : UInt8 := UInt8.ofNat (n % 256)
theorem hiB_nat {n : Nat} (h : n < 65536) : (hiB n).toNat = n / 256 := by unfold hiB; rw [UInt8.toNat_ofNat_of_lt' (by show _ < 256; omega)]
theorem loB_nat (n : Nat) : (loB n).toNat = n % 256 := by unfold loB; rw [UInt8.toNat_ofNat_of_lt' (by show _ < 256; omega)]

set_option maxHeartbeats 4000000 in
theorem fits2_any (n : Nat) (hn : n < 65536) (m m' : Bool) : Runs Try.prog env 105 [.pure m (.int .u64 n), .pure m' (.int .i64 2)] [] (.pure true (.bool true)) [] := by
  refine Runs.of Try.func105 rfl (by simp [Try.ntmps105]) ?_
  have fd : (n : Int).fdiv (2 ^ min (8 * 2 : Int).toNat 64) = 0 := by
    rw [Int.fdiv_eq_ediv_of_nonneg _ (by decide)]
    show (n : Int) / 65536 = 0
    omega
  simp (maxSteps := 400000) -dsimp -implicitDefEqProofs (disch := first | exact TrueB.mk rfl | omega) only [go_sem, Nat.reduceMul, Nat.reduceAdd, Nat.reduceLT, Nat.reduceLeDiff, Nat.reducePow, Nat.reduceEqDiff, ↓reduceIte, reduceCtorEq, Int.reduceToNat, Try.ntmps105]
  first | exact end_bool rfl rfl | done

set_option maxHeartbeats 4000000 in
theorem reverse2_any (a b : UInt8) (m : Bool) : Runs Try.prog env 106 [.row 0 2] [(0, .row m 1 0 (bytesOf [a, b]))] (.tuple []) [(0, .row m 1 0 (bytesOf [b, a]))] := by
  refine Runs.of Try.func106 rfl (by simp [Try.ntmps106]) ?_
  have g0 : (bytesOf [a, b])[0]? = some (.int .u8 a.toNat) := rfl
  have g1 : (bytesOf [a, b])[1]? = some (.int .u8 b.toNat) := rfl
  have g2 : (bytesOf [b, b])[1]? = some (.int .u8 b.toNat) := rfl
  have g4 : (bytesOf [b, b])[0]? = some (.int .u8 b.toNat) := rfl
  have g3 : (bytesOf [b, a])[0]? = some (.int .u8 b.toNat) := rfl
  have s0 : (bytesOf [a, b]).set 0 (.int .u8 b.toNat) = bytesOf [b, b] := rfl
  have s1 : (bytesOf [b, b]).set 1 (.int .u8 a.toNat) = bytesOf [b, a] := rfl
  have l1 : (bytesOf [a, b]).length = 2 := rfl
  have l2 : (bytesOf [b, b]).length = 2 := rfl
  simp (maxSteps := 400000) -dsimp -implicitDefEqProofs (disch := first | exact TrueB.mk rfl | omega) only [go_sem, Nat.reduceMul, Nat.reduceAdd, Nat.reduceLT, Nat.reduceLeDiff, Nat.reducePow, Nat.reduceEqDiff, ↓reduceIte, reduceCtorEq, Int.reduceToNat, Try.ntmps106]
  refine wpLoop_ind (α := Bool)
    (fun q => ⟨[(0, .row 0 2), (2, .pure true (.int .i64 (if q then 1 else 0))), (3, .pure true (.int .i64 (if q then 0 else 1)))], [(0, .row m 1 0 (if q then bytesOf [b, a] else bytesOf [a, b]))]⟩)
    (fun _ => True) (fun q => if q then 0 else 1) ?_ false trivial rfl
  rintro q -
  cases q with
  | false =>
    generalize hX : bytesOf [a, b] = X at *
    generalize hY : bytesOf [b, b] = Y at *
    generalize hZ : bytesOf [b, a] = Z at *
    simp (maxSteps := 400000) -dsimp -implicitDefEqProofs (disch := first | exact TrueB.mk rfl | omega) only [go_sem, Nat.reduceMul, Nat.reduceAdd, Nat.reduceLT, Nat.reduceLeDiff, Nat.reducePow, Nat.reduceEqDiff, ↓reduceIte, reduceCtorEq, Int.reduceToNat, g0, g1, g2, g3, g4, s0, s1, l1, l2, Nat.zero_le, eq_self]
    first | exact again_mk ⟨true, trivial, by simp, rfl⟩ | done
  | true =>
    simp (maxSteps := 400000) -dsimp -implicitDefEqProofs (disch := first | exact TrueB.mk rfl | omega) only [go_sem, Nat.reduceMul, Nat.reduceAdd, Nat.reduceLT, Nat.reduceLeDiff, Nat.reducePow, Nat.reduceEqDiff, ↓reduceIte, reduceCtorEq, Int.reduceToNat]
    first | exact rfl | done
end Go.Proofs.Ytpgklagjjimbhaa
