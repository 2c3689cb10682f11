/- YtpgklagjjimbhaaM: octets: cut, numbers, what is behind. No claim. -/
import Derived.Test.YtpgklagjjimbhaaA
set_option linter.unusedVariables false
set_option linter.unusedSimpArgs false
set_option maxRecDepth 100000
namespace Go.Proofs.Ytpgklagjjimbhaa
open Go Go.Proofs.Ytpgklagjjimbhaa.V

theorem cut_ok (b : List UInt8) (hb : b.length ≤ 100000000) (at_ n : Nat) (h : at_ + n ≤ b.length) (m m1 m2 : Bool) : Runs Try.prog env 86 [.pure m (.sl (bytesOf b)), .pure m1 (.int .i64 at_), .pure m2 (.int .i64 n)] []
    (.tuple [.row 0 ((b.drop at_).take n).length, .pure true (.bool true)]) [(0, .row true 1 0 (bytesOf ((b.drop at_).take n)))] := by
  refine Runs.of Try.func86 rfl (by simp [Try.ntmps86]) ?_
  have e1 : (at_ : Int) + (n : Int) = ((at_ + n : Nat) : Int) := by omega
  have e2 : at_ + n - at_ = n := by omega
  have e3 : ((b.drop at_).take n).length ≤ 100000000 := by rw [List.length_take]; omega
  simp (maxSteps := 400000) -dsimp -implicitDefEqProofs (disch := first | exact TrueB.mk rfl | omega) only [go_sem, Nat.reduceMul, Nat.reduceAdd, Nat.reduceLT, Nat.reduceLeDiff, Nat.reducePow, Nat.reduceEqDiff, ↓reduceIte, reduceCtorEq, Int.reduceToNat, Try.ntmps86, e1, e2]
  first | refine wpAct_intr rfl rfl rfl rfl (clone_bytes rfl (by omega)) ?_ | done
  simp (maxSteps := 400000) -dsimp -implicitDefEqProofs (disch := first | exact TrueB.mk rfl | omega) only [go_sem, Nat.reduceMul, Nat.reduceAdd, Nat.reduceLT, Nat.reduceLeDiff, Nat.reducePow, Nat.reduceEqDiff, ↓reduceIte, reduceCtorEq, Int.reduceToNat]
  first | exact end_row2 rfl rfl rfl (by rw [bytesOf_length]) (allScalar_bytesOf _) rfl rfl | done
theorem cut_no (b : List UInt8) (hb : b.length ≤ 100000000) (at_ n : Nat) (h : b.length < at_ + n) (hn : n ≤ 100000000) (ha : at_ ≤ 100000000) (m m1 m2 : Bool) : Runs Try.prog env 86 [.pure m (.sl (bytesOf b)), .pure m1 (.int .i64 at_), .pure m2 (.int .i64 n)] []
    (.tuple [.row 0 0, .pure true (.bool false)]) [(0, .row true 0 0 [])] := by
  refine Runs.of Try.func86 rfl (by simp [Try.ntmps86]) ?_
  by_cases h1 : b.length < at_
  · simp (maxSteps := 400000) -dsimp -implicitDefEqProofs (disch := first | exact TrueB.mk rfl | omega) only [go_sem, Nat.reduceMul, Nat.reduceAdd, Nat.reduceLT, Nat.reduceLeDiff, Nat.reducePow, Nat.reduceEqDiff, ↓reduceIte, reduceCtorEq, Int.reduceToNat, Try.ntmps86]
    first | exact end_row2 rfl rfl rfl rfl rfl rfl rfl | done
  · have e1 : (b.length : Int) - (at_ : Int) = ((b.length - at_ : Nat) : Int) := by omega
    simp (maxSteps := 400000) -dsimp -implicitDefEqProofs (disch := first | exact TrueB.mk rfl | omega) only [go_sem, Nat.reduceMul, Nat.reduceAdd, Nat.reduceLT, Nat.reduceLeDiff, Nat.reducePow, Nat.reduceEqDiff, ↓reduceIte, reduceCtorEq, Int.reduceToNat, Try.ntmps86, e1]
    first | exact end_row2 rfl rfl rfl rfl rfl rfl rfl | done

theorem behind_any (b : List UInt8) (hb : b.length ≤ 100000000) (n : Nat) (hn : n ≤ 100000000) (m m1 : Bool) : Runs Try.prog env 92 [.pure m (.sl (bytesOf b)), .pure m1 (.int .i64 n)] []
    (.row 0 (b.drop n).length) [(0, .row true 1 0 (bytesOf (b.drop n)))] := by
  refine Runs.of Try.func92 rfl (by simp [Try.ntmps92]) ?_
  have e1 : (if (n : Int) < 0 then (0 : Int) else n) = n := by rw [if_neg (by omega)]
  have e3 : (b.drop n).length ≤ 100000000 := by rw [List.length_drop]; omega
  by_cases h : n ≤ b.length
  · have e4 : (b.drop n).take (b.length - n) = b.drop n := List.take_of_length_le (by rw [List.length_drop]; omega)
    simp (maxSteps := 400000) -dsimp -implicitDefEqProofs (disch := first | exact TrueB.mk rfl | omega) only [go_sem, Nat.reduceMul, Nat.reduceAdd, Nat.reduceLT, Nat.reduceLeDiff, Nat.reducePow, Nat.reduceEqDiff, ↓reduceIte, reduceCtorEq, Int.reduceToNat, Try.ntmps92, callB, minV, maxV, e1, e4]
    first | refine wpAct_intr rfl rfl rfl rfl (clone_bytes rfl (by omega)) ?_ | done
    simp (maxSteps := 400000) -dsimp -implicitDefEqProofs (disch := first | exact TrueB.mk rfl | omega) only [go_sem, Nat.reduceMul, Nat.reduceAdd, Nat.reduceLT, Nat.reduceLeDiff, Nat.reducePow, Nat.reduceEqDiff, ↓reduceIte, reduceCtorEq, Int.reduceToNat]
    first | exact end_row rfl rfl (by rw [bytesOf_length]) (allScalar_bytesOf _) | done
  · have e4 : b.drop n = [] := List.drop_eq_nil_of_le (by omega)
    rw [e4]
    simp (maxSteps := 400000) -dsimp -implicitDefEqProofs (disch := first | exact TrueB.mk rfl | omega) only [go_sem, Nat.reduceMul, Nat.reduceAdd, Nat.reduceLT, Nat.reduceLeDiff, Nat.reducePow, Nat.reduceEqDiff, ↓reduceIte, reduceCtorEq, Int.reduceToNat, Try.ntmps92, callB, minV, maxV, e1]
    first | refine wpAct_intr rfl rfl rfl rfl (clone_bytes (d := []) rfl (by simp)) ?_ | done
    simp (maxSteps := 400000) -dsimp -implicitDefEqProofs (disch := first | exact TrueB.mk rfl | omega) only [go_sem, Nat.reduceMul, Nat.reduceAdd, Nat.reduceLT, Nat.reduceLeDiff, Nat.reducePow, Nat.reduceEqDiff, ↓reduceIte, reduceCtorEq, Int.reduceToNat]
    first | exact end_row rfl rfl rfl rfl | done

/-- The number whose bytes these are, the great end ahead. -/
def numB (b : List UInt8) : Nat := b.foldl (fun a c => a * 256 + c.toNat) 0
theorem numB_snoc (b : List UInt8) (c : UInt8) : numB (b ++ [c]) = numB b * 256 + c.toNat := by simp [numB]
theorem numB_lt (b : List UInt8) : numB b < 256 ^ b.length := by
  suffices h : ∀ (k : Nat) (b : List UInt8), b.length = k → numB b < 256 ^ k from h _ b rfl
  intro k
  induction k with
  | zero =>
    intro b hb
    have : b = [] := List.length_eq_zero_iff.1 hb
    subst this
    simp [numB]
  | succ k ih =>
    intro b hb
    have hne : b ≠ [] := fun e => by rw [e] at hb; simp at hb
    obtain ⟨t, c, rfl⟩ : ∃ t c, b = t ++ [c] := ⟨b.dropLast, b.getLast hne, (List.dropLast_concat_getLast hne).symm⟩
    rw [numB_snoc]
    have h1 := ih t (by simpa using hb)
    have hc := c.toNat_lt
    rw [Nat.pow_succ]
    omega
theorem or_nat (n c : Nat) (hc : c < 256) : n * 256 ||| c = n * 256 + c := by
  have := Nat.shiftLeft_add_eq_or_of_lt (a := n) (b := c) (i := 8) (by omega)
  rw [Nat.shiftLeft_eq] at this
  exact this.symm
theorem or_bv (n c : Nat) (hc : c < 256) (hn : n * 256 + c < 18446744073709551616) : ((BitVec.ofInt 64 ((n * 256 : Nat) : Int)) ||| (BitVec.ofInt 64 (c : Int))).toNat = n * 256 + c := by
  rw [BitVec.toNat_or, BitVec.toNat_ofInt, BitVec.toNat_ofInt]
  have e1 : (((n * 256 : Nat) : Int) % ((2 ^ 64 : Nat) : Int)).toNat = n * 256 := by
    rw [Int.emod_eq_of_lt (by omega) (by omega)]; omega
  have e2 : ((c : Int) % ((2 ^ 64 : Nat) : Int)).toNat = c := by
    rw [Int.emod_eq_of_lt (by omega) (by omega)]; omega
  rw [e1, e2, or_nat n c hc]

theorem or_u64 (n c : Nat) (hc : c < 256) (hn : n * 256 + c < 18446744073709551616) : IntKind.u64.wrap ((((BitVec.ofInt IntKind.u64.bits (IntKind.u64.wrap ((n : Int) * 2 ^ min 8 64))) ||| (BitVec.ofInt IntKind.u64.bits (c : Int))).toNat : Nat) : Int) = ((n * 256 + c : Nat) : Int) := by
  have e : ((n : Int) * 2 ^ min 8 64) = ((n * 256 : Nat) : Int) := by simp
  rw [e, wrap_u64n (x := n * 256) (by omega)]
  have := or_bv n c hc hn
  show IntKind.u64.wrap ((((BitVec.ofInt 64 ((n * 256 : Nat) : Int)) ||| (BitVec.ofInt 64 (c : Int))).toNat : Nat) : Int) = _
  rw [this, wrap_u64n hn]
theorem or_i64 (n c : Nat) (hc : c < 256) (hn : n * 256 + c < 9223372036854775808) : IntKind.i64.wrap ((((BitVec.ofInt IntKind.i64.bits (IntKind.i64.wrap ((n : Int) * 2 ^ min 8 64))) ||| (BitVec.ofInt IntKind.i64.bits (c : Int))).toNat : Nat) : Int) = ((n * 256 + c : Nat) : Int) := by
  have e : ((n : Int) * 2 ^ min 8 64) = ((n * 256 : Nat) : Int) := by simp
  rw [e, wrap_i64n (x := n * 256) (by omega)]
  have := or_bv n c hc (by omega)
  show IntKind.i64.wrap ((((BitVec.ofInt 64 ((n * 256 : Nat) : Int)) ||| (BitVec.ofInt 64 (c : Int))).toNat : Nat) : Int) = _
  rw [this, wrap_i64n hn]

set_option maxHeartbeats 4000000 in
theorem octGet_any (b : List UInt8) (h1 : 1 ≤ b.length) (h8 : b.length ≤ 7) (m m' : Bool) : Runs Try.prog env 104 [.pure m (.sl (bytesOf b)), .pure m' (.bool true)] []
    (.tuple [.pure true (.int .u64 (numB b : Nat)), .pure true (.bool true)]) [] := by
  refine Runs.of Try.func104 rfl (by simp [Try.ntmps104]) ?_
  simp (maxSteps := 400000) -dsimp -implicitDefEqProofs (disch := first | exact TrueB.mk rfl | omega) only [go_sem, Nat.reduceMul, Nat.reduceAdd, Nat.reduceLT, Nat.reduceLeDiff, Nat.reducePow, Nat.reduceEqDiff, ↓reduceIte, reduceCtorEq, Int.reduceToNat, Try.ntmps104]
  refine wpLoop_ind (α := Nat)
    (fun i => ⟨[(0, .pure m (.sl (bytesOf b))), (1, .pure m' (.bool true)), (6, .pure true (.int .u64 (numB (b.take i) : Nat))), (18, .pure true (.int .i64 b.length)), (19, .pure true (.int .i64 i))], []⟩)
    (fun i => i ≤ b.length) (fun i => b.length - i) ?_ 0 (by simp) rfl
  rintro i hi
  simp (maxSteps := 400000) -dsimp -implicitDefEqProofs (disch := first | exact TrueB.mk rfl | omega) only [go_sem, Nat.reduceMul, Nat.reduceAdd, Nat.reduceLT, Nat.reduceLeDiff, Nat.reducePow, Nat.reduceEqDiff, ↓reduceIte, reduceCtorEq, Int.reduceToNat]
  first | refine condK_dec (fun h2 => ?_) (fun h2 => ?_) | refine condK_ndec (fun h2 => ?_) (fun h2 => ?_) | refine condK_beq (fun h2 => ?_) (fun h2 => ?_) | refine condK_bne (fun h2 => ?_) (fun h2 => ?_) | refine condK_nbeq (fun h2 => ?_) (fun h2 => ?_) | refine guardK_dec (fun h2 => ?_) (fun h2 => ?_) | refine guardK_ndec (fun h2 => ?_) (fun h2 => ?_) | refine guardK_beq (fun h2 => ?_) (fun h2 => ?_) | refine guardK_bne (fun h2 => ?_) (fun h2 => ?_) | refine guardK_nbeq (fun h2 => ?_) (fun h2 => ?_) | refine condK_not (fun h2 => ?_) (fun h2 => ?_) | refine guardK_not (fun h2 => ?_) (fun h2 => ?_) | refine condK_bool (fun h2 => ?_) (fun h2 => ?_) | refine guardK_bool (fun h2 => ?_) (fun h2 => ?_) | done
  · have hlt : i < b.length := by omega
    have g1 : (bytesOf b)[i]? = some (.int .u8 b[i].toNat) := by rw [bytesOf_get, List.getElem?_eq_getElem hlt]; rfl
    have g2 : (bytesOf b)[b.length - 1 - i]? = some (.int .u8 (b[b.length - 1 - i]'(by omega)).toNat) := by rw [bytesOf_get, List.getElem?_eq_getElem (by omega)]; rfl
    have e1 : (b.length : Int) - 1 - (i : Int) = ((b.length - 1 - i : Nat) : Int) := by omega
    have e0 : (b.length : Int) - 1 = ((b.length - 1 : Nat) : Int) := by omega
    have e2 : ((b.length - 1 : Nat) : Int) - (i : Int) = ((b.length - 1 - i : Nat) : Int) := by omega
    have hc := b[i].toNat_lt
    have hn := numB_lt (b.take i)
    rw [List.length_take] at hn
    have hs : numB (b.take (i + 1)) = numB (b.take i) * 256 + b[i].toNat := by rw [← List.take_append_getElem hlt, numB_snoc]
    have hn' : numB (b.take i) < 256 ^ 6 := Nat.lt_of_lt_of_le hn (Nat.pow_le_pow_right (by omega) (by omega))
    have ho := or_u64 (numB (b.take i)) b[i].toNat hc (by omega)
    simp (maxSteps := 400000) -dsimp -implicitDefEqProofs (disch := first | exact TrueB.mk rfl | omega) only [go_sem, Nat.reduceMul, Nat.reduceAdd, Nat.reduceLT, Nat.reduceLeDiff, Nat.reducePow, Nat.reduceEqDiff, ↓reduceIte, reduceCtorEq, Int.reduceToNat, g1, g2, e0, e1, e2, ho]
    refine again_mk ⟨i + 1, by omega, by omega, ?_⟩
    rw [hs]
    rfl
  · simp (maxSteps := 400000) -dsimp -implicitDefEqProofs (disch := first | exact TrueB.mk rfl | omega) only [go_sem, Nat.reduceMul, Nat.reduceAdd, Nat.reduceLT, Nat.reduceLeDiff, Nat.reducePow, Nat.reduceEqDiff, ↓reduceIte, reduceCtorEq, Int.reduceToNat]
    rw [List.take_of_length_le (show b.length ≤ i by omega)]
    first | exact end_pv2 rfl rfl rfl rfl | done
end Go.Proofs.Ytpgklagjjimbhaa
