/- YtpcocbgicckcgaaB: what the functions of 'digits' that read numbers come to. No claim. -/
import Derived.Test.YtpcocbgicckcgaaA
set_option linter.unusedVariables false
set_option linter.unusedSimpArgs false
set_option maxRecDepth 100000
namespace Go.Proofs.Ytpcocbgicckcgaa
open Go Go.Proofs.Ytpcocbgicckcgaa.V

/-- A sign's number. -/
def digitOf (r : Int) : Int := if 48 ≤ r ∧ r ≤ 57 then r - 48 else if 97 ≤ r ∧ r ≤ 102 then r - 97 + 10 else -1

set_option maxHeartbeats 1000000 in
theorem digit_any (r : Int) (m : Bool) (h0 : -2147483648 ≤ r) (h1 : r < 2147483648) : Runs Try.prog env 29 [.pure m (.int .i32 r)] [] (.pure true (.int .i64 (digitOf r))) [] := by
  have hd : digitOf r = if 48 ≤ r ∧ r ≤ 57 then r - 48 else if 97 ≤ r ∧ r ≤ 102 then r - 97 + 10 else -1 := rfl
  generalize digitOf r = x at hd
  by_cases ha : 48 ≤ r <;> by_cases hb : r ≤ 57 <;> by_cases hc : 97 ≤ r <;> by_cases he : r ≤ 102 <;> try omega
  all_goals
    refine Runs.of Try.func29 rfl (by simp [Try.ntmps29]) ?_
    simp (maxSteps := 200000) -dsimp -implicitDefEqProofs (disch := omega) only [go_sem, wrap_u8, wrap_u16, wrap_u32, wrap_u64, wrap_i32, wrap_i64, List.length_nil, List.length_cons, List.length_append, List.map_cons, List.map_nil, List.replicate, List.set, List.getElem?_cons_zero, List.getElem?_cons_succ, List.take_zero, List.drop_zero, List.take_succ_cons, List.nil_append, List.cons_append, decide_eq_true_eq, Option.getD_some, Option.isNone_none, Option.isSome_some, Bool.false_eq_true, Bool.true_and, Bool.and_true, Bool.or_true, Bool.true_or, Bool.false_or, Bool.or_false, Bool.and_self, Bool.and_false, Bool.false_and, Nat.reduceMul, Nat.reduceAdd, Nat.reduceLT, Nat.reduceLeDiff, Nat.reducePow, Nat.reduceEqDiff, Nat.mul_one, Nat.one_mul, Nat.zero_add, Nat.add_zero, not_false_eq_true, true_and, and_true, and_self, true_or, or_true, false_or, or_false, ↓reduceIte, reduceCtorEq, gt_iff_lt, ge_iff_le, Option.some.injEq, Nat.lt_add_one, Nat.zero_lt_one, Int.toNat_natCast, decide_true, decide_false, Bool.not_true, Bool.not_false, Bool.not_eq_true, Bool.true_eq_false, not_true_eq_false, beq_iff_eq, bne_iff_ne, Int.natCast_eq_zero, bytesOf_length, x_cond, x_drawn, p_guard, o_guard, ile_true, ilt_true, ile_false, ilt_false, int_eq, int_ne, int_beq, int_bne, int_beq', int_bne', Try.ntmps29]
    exact end_int rfl (by split at hd <;> (try split at hd) <;> omega)
end Go.Proofs.Ytpcocbgicckcgaa
