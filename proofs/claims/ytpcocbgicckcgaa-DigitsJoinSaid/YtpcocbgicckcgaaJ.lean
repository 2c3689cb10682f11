/- YtpcocbgicckcgaaJ: the document's own functions: a number is put, and read. No claim. -/
import Derived.Test.YtpcocbgicckcgaaH
set_option linter.unusedVariables false
set_option linter.unusedSimpArgs false
set_option maxRecDepth 100000
namespace Go.Proofs.Ytpcocbgicckcgaa
open Go Go.Proofs.Ytpcocbgicckcgaa.V

theorem signs_cut {i : Nat} (h : i < 16) : (([48, 49, 50, 51, 52, 53, 54, 55, 56, 57, 97, 98, 99, 100, 101, 102] : List UInt8).drop i).take (i + 1 - i) = [sign i] := by
  have : ∀ i : Fin 16, (([48, 49, 50, 51, 52, 53, 54, 55, 56, 57, 97, 98, 99, 100, 101, 102] : List UInt8).drop i.val).take (i.val + 1 - i.val) = [sign i.val] := by decide
  exact this ⟨i, h⟩

set_option maxHeartbeats 2000000 in
theorem refPut_any (b : Nat) (hb : 2 ≤ b) (hb' : b ≤ 16) (N : Nat) (hN : N < 18446744073709551616) (m m' : Bool) :
    Runs Try.prog env 11 [.pure m (.int .u64 N), .pure m' (.int .u64 b)] [] (.pure true (.str (digs b N))) [] := by
  refine Runs.of Try.func11 rfl (by simp [Try.ntmps11]) ?_
  have hb0 : b ≠ 0 := by omega
  have hmod : N % b < 16 := Nat.lt_of_lt_of_le (Nat.mod_lt _ (by omega)) hb'
  have hc1 : ((N % b : Nat) : Int) + 1 = ((N % b + 1 : Nat) : Int) := by omega
  have hcut := signs_cut hmod
  simp (maxSteps := 200000) -dsimp -implicitDefEqProofs (disch := omega) only [go_sem, wrap_u8, wrap_u16, wrap_u32, wrap_u64, wrap_i32, wrap_i64, List.length_nil, List.length_cons, List.length_append, List.map_cons, List.map_nil, List.replicate, List.set, List.getElem?_cons_zero, List.getElem?_cons_succ, List.take_zero, List.drop_zero, List.take_succ_cons, List.nil_append, List.cons_append, decide_eq_true_eq, Option.getD_some, Option.isNone_none, Option.isSome_some, Bool.false_eq_true, Bool.true_and, Bool.and_true, Bool.or_true, Bool.true_or, Bool.false_or, Bool.or_false, Bool.and_self, Bool.and_false, Bool.false_and, Nat.reduceMul, Nat.reduceAdd, Nat.reduceLT, Nat.reduceLeDiff, Nat.reducePow, Nat.reduceEqDiff, Nat.mul_one, Nat.one_mul, Nat.zero_add, Nat.add_zero, not_false_eq_true, true_and, and_true, and_self, true_or, or_true, false_or, or_false, ↓reduceIte, reduceCtorEq, gt_iff_lt, ge_iff_le, Option.some.injEq, Nat.lt_add_one, Nat.zero_lt_one, Int.toNat_natCast, decide_true, decide_false, Bool.not_true, Bool.not_false, Bool.not_eq_true, Bool.true_eq_false, not_true_eq_false, beq_iff_eq, bne_iff_ne, Int.natCast_eq_zero, bytesOf_length, x_cond, x_drawn, p_guard, o_guard, ile_true, ilt_true, ile_false, ilt_false, int_eq, int_ne, int_beq, int_bne, int_beq', int_bne', Try.ntmps11, hc1, hcut]
  refine ⟨rfl, ?_⟩
  refine wpLoop_ind (α := Bool × Nat × List UInt8)
    (fun a => ⟨[(0, .pure a.1 (.int .u64 a.2.1)), (1, .pure m' (.int .u64 b)), (5, .pure true (.str a.2.2))], []⟩)
    (fun a => a.2.1 < 18446744073709551616 ∧ (b ≤ a.2.1 → digs b N = digs b (a.2.1 / b) ++ a.2.2) ∧ (a.2.1 < b → digs b N = a.2.2)) (fun a => a.2.1) ?_ (m, N, [sign (N % b)]) ⟨hN, fun h => digs_ge hb h, fun h => by rw [digs_lt h, Nat.mod_eq_of_lt h]⟩ rfl
  clear hcut hc1 hmod
  rintro ⟨m0, n, s⟩ ⟨hn, h1, h2⟩
  simp only at hn h1 h2
  by_cases h : b ≤ n
  · have hmod : n / b % b < 16 := Nat.lt_of_lt_of_le (Nat.mod_lt _ (by omega)) hb'
    have hq : n / b < 18446744073709551616 := Nat.lt_of_le_of_lt (Nat.div_le_self _ _) hn
    have hc1 : ((n / b % b : Nat) : Int) + 1 = ((n / b % b + 1 : Nat) : Int) := by omega
    have hcut := signs_cut hmod
    have hlen : s.length ≤ 64 := by
      have h3 := digs_len hb 63 N (by simpa using hN)
      rw [h1 h, List.length_append] at h3
      omega
    have hmax : ((1 + s.length : Nat) : Int) ≤ maxStr := by
      unfold maxStr
      omega
    simp (maxSteps := 200000) -dsimp -implicitDefEqProofs (disch := omega) only [go_sem, wrap_u8, wrap_u16, wrap_u32, wrap_u64, wrap_i32, wrap_i64, List.length_nil, List.length_cons, List.length_append, List.map_cons, List.map_nil, List.replicate, List.set, List.getElem?_cons_zero, List.getElem?_cons_succ, List.take_zero, List.drop_zero, List.take_succ_cons, List.nil_append, List.cons_append, decide_eq_true_eq, Option.getD_some, Option.isNone_none, Option.isSome_some, Bool.false_eq_true, Bool.true_and, Bool.and_true, Bool.or_true, Bool.true_or, Bool.false_or, Bool.or_false, Bool.and_self, Bool.and_false, Bool.false_and, Nat.reduceMul, Nat.reduceAdd, Nat.reduceLT, Nat.reduceLeDiff, Nat.reducePow, Nat.reduceEqDiff, Nat.mul_one, Nat.one_mul, Nat.zero_add, Nat.add_zero, not_false_eq_true, true_and, and_true, and_self, true_or, or_true, false_or, or_false, ↓reduceIte, reduceCtorEq, gt_iff_lt, ge_iff_le, Option.some.injEq, Nat.lt_add_one, Nat.zero_lt_one, Int.toNat_natCast, decide_true, decide_false, Bool.not_true, Bool.not_false, Bool.not_eq_true, Bool.true_eq_false, not_true_eq_false, beq_iff_eq, bne_iff_ne, Int.natCast_eq_zero, bytesOf_length, x_cond, x_drawn, p_guard, o_guard, ile_true, ilt_true, ile_false, ilt_false, int_eq, int_ne, int_beq, int_bne, int_beq', int_bne', Try.ntmps11, hc1, hcut, hmax]
    refine ⟨rfl, again_mk ⟨(true, n / b, sign (n / b % b) :: s), ⟨hq, fun h3 => ?_, fun h3 => ?_⟩, Nat.div_lt_self (by omega) (by omega), rfl⟩⟩
    · rw [h1 h, digs_ge hb h3]
      simp
    · rw [h1 h, digs_lt h3, Nat.mod_eq_of_lt h3]
      rfl
  · simp (maxSteps := 200000) -dsimp -implicitDefEqProofs (disch := omega) only [go_sem, wrap_u8, wrap_u16, wrap_u32, wrap_u64, wrap_i32, wrap_i64, List.length_nil, List.length_cons, List.length_append, List.map_cons, List.map_nil, List.replicate, List.set, List.getElem?_cons_zero, List.getElem?_cons_succ, List.take_zero, List.drop_zero, List.take_succ_cons, List.nil_append, List.cons_append, decide_eq_true_eq, Option.getD_some, Option.isNone_none, Option.isSome_some, Bool.false_eq_true, Bool.true_and, Bool.and_true, Bool.or_true, Bool.true_or, Bool.false_or, Bool.or_false, Bool.and_self, Bool.and_false, Bool.false_and, Nat.reduceMul, Nat.reduceAdd, Nat.reduceLT, Nat.reduceLeDiff, Nat.reducePow, Nat.reduceEqDiff, Nat.mul_one, Nat.one_mul, Nat.zero_add, Nat.add_zero, not_false_eq_true, true_and, and_true, and_self, true_or, or_true, false_or, or_false, ↓reduceIte, reduceCtorEq, gt_iff_lt, ge_iff_le, Option.some.injEq, Nat.lt_add_one, Nat.zero_lt_one, Int.toNat_natCast, decide_true, decide_false, Bool.not_true, Bool.not_false, Bool.not_eq_true, Bool.true_eq_false, not_true_eq_false, beq_iff_eq, bne_iff_ne, Int.natCast_eq_zero, bytesOf_length, x_cond, x_drawn, p_guard, o_guard, ile_true, ilt_true, ile_false, ilt_false, int_eq, int_ne, int_beq, int_bne, int_beq', int_bne', Try.ntmps11]
    exact end_str rfl (h2 (by omega)).symm

theorem refPut_10 (N : Nat) (hN : N < 18446744073709551616) (m m' : Bool) : Runs Try.prog env 11 [.pure m (.int .u64 N), .pure m' (.int .u64 10)] [] (.pure true (.str (digs 10 N))) [] := refPut_any 10 (by omega) (by omega) N hN m m'
theorem refPut_16 (N : Nat) (hN : N < 18446744073709551616) (m m' : Bool) : Runs Try.prog env 11 [.pure m (.int .u64 N), .pure m' (.int .u64 16)] [] (.pure true (.str (digs 16 N))) [] := refPut_any 16 (by omega) (by omega) N hN m m'
end Go.Proofs.Ytpcocbgicckcgaa
