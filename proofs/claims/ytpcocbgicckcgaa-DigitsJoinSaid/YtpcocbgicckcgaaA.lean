/- YtpcocbgicckcgaaA: what the functions of 'digits' come to: numbers. No claim. -/
import Derived.Test.YtpcocbgicckcgaaE
set_option linter.unusedVariables false
set_option linter.unusedSimpArgs false
set_option maxRecDepth 100000
namespace Go.Proofs.Ytpcocbgicckcgaa
open Go Go.Proofs.Ytpcocbgicckcgaa.V

def sign (n : Nat) : UInt8 := UInt8.ofNat (if n < 10 then 48 + n else 87 + n)
theorem sign_nat {n : Nat} (h : n < 16) : (sign n).toNat = if n < 10 then 48 + n else 87 + n := by
  unfold sign
  split <;> simp <;> omega

set_option maxHeartbeats 1000000 in
theorem letter_any (n : Nat) (m : Bool) (h : n < 16) : Runs Try.prog env 26 [.pure m (.int .u64 n)] [] (.pure true (.int .u8 (sign n).toNat)) [] := by
  refine Runs.of Try.func26 rfl (by simp [Try.ntmps26]) ?_
  simp (maxSteps := 200000) -dsimp -implicitDefEqProofs (disch := omega) only [go_sem, wrap_u8, wrap_u16, wrap_u32, wrap_u64, wrap_i32, wrap_i64, List.length_nil, List.length_cons, List.length_append, List.map_cons, List.map_nil, List.replicate, List.set, List.getElem?_cons_zero, List.getElem?_cons_succ, List.take_zero, List.drop_zero, List.take_succ_cons, List.nil_append, List.cons_append, decide_eq_true_eq, Option.getD_some, Option.isNone_none, Option.isSome_some, Bool.false_eq_true, Bool.true_and, Bool.and_true, Bool.or_true, Bool.true_or, Bool.false_or, Bool.or_false, Bool.and_self, Bool.and_false, Bool.false_and, Nat.reduceMul, Nat.reduceAdd, Nat.reduceLT, Nat.reduceLeDiff, Nat.reducePow, Nat.reduceEqDiff, Nat.mul_one, Nat.one_mul, Nat.zero_add, Nat.add_zero, not_false_eq_true, true_and, and_true, and_self, true_or, or_true, false_or, or_false, ↓reduceIte, reduceCtorEq, gt_iff_lt, ge_iff_le, Option.some.injEq, Nat.lt_add_one, Nat.zero_lt_one, Int.toNat_natCast, decide_true, decide_false, Bool.not_true, Bool.not_false, Bool.not_eq_true, Bool.true_eq_false, not_true_eq_false, beq_iff_eq, bne_iff_ne, Int.natCast_eq_zero, bytesOf_length, x_cond, x_drawn, p_guard, o_guard, Try.ntmps26]
  have hs := sign_nat h
  split
  · rename_i hc
    rw [if_pos (by omega)] at hs
    exact end_int rfl (by rw [hs]; omega)
  · rename_i hc
    rw [if_neg (by omega)] at hs
    exact end_int rfl (by rw [hs]; omega)

/-- A number's digits. -/
def digs (b n : Nat) : List UInt8 := if h : n < b ∨ b < 2 then [sign (n % b)] else digs b (n / b) ++ [sign (n % b)]
termination_by n
decreasing_by exact Nat.div_lt_self (by omega) (by omega)

theorem digs_len {b : Nat} (hb : 2 ≤ b) : ∀ (k n : Nat), n < 2 ^ (k + 1) → (digs b n).length ≤ k + 1 := by
  intro k
  induction k with
  | zero =>
    intro n h
    rw [digs, dif_pos (.inl (by omega))]
    simp
  | succ k ih =>
    intro n h
    by_cases hc : n < b
    · rw [digs, dif_pos (.inl hc)]
      simp
    · rw [digs, dif_neg (by omega)]
      have h1 : n / b ≤ n / 2 := Nat.div_le_div_left hb (by omega)
      have := ih (n / b) (by omega)
      simp
      omega

theorem digs_lt {b n : Nat} (h : n < b) : digs b n = [sign n] := by
  rw [digs, dif_pos (.inl h), Nat.mod_eq_of_lt h]
theorem digs_ge {b n : Nat} (hb : 2 ≤ b) (h : b ≤ n) : digs b n = digs b (n / b) ++ [sign (n % b)] := by
  rw [digs, dif_neg (by omega)]

set_option maxHeartbeats 1000000 in
theorem put_any (b : Nat) (hb : 2 ≤ b) (hb' : b ≤ 16) (N : Nat) (hN : N < 18446744073709551616) (m m' : Bool) :
    Runs Try.prog env 25 [.pure m (.int .u64 N), .pure m' (.int .u64 b)] [] (.pure true (.str (digs b N))) [] := by
  refine Runs.of Try.func25 rfl (by simp [Try.ntmps25]) ?_
  simp (maxSteps := 200000) -dsimp -implicitDefEqProofs (disch := omega) only [go_sem, wrap_u8, wrap_u16, wrap_u32, wrap_u64, wrap_i32, wrap_i64, List.length_nil, List.length_cons, List.length_append, List.map_cons, List.map_nil, List.replicate, List.set, List.getElem?_cons_zero, List.getElem?_cons_succ, List.take_zero, List.drop_zero, List.take_succ_cons, List.nil_append, List.cons_append, decide_eq_true_eq, Option.getD_some, Option.isNone_none, Option.isSome_some, Bool.false_eq_true, Bool.true_and, Bool.and_true, Bool.or_true, Bool.true_or, Bool.false_or, Bool.or_false, Bool.and_self, Bool.and_false, Bool.false_and, Nat.reduceMul, Nat.reduceAdd, Nat.reduceLT, Nat.reduceLeDiff, Nat.reducePow, Nat.reduceEqDiff, Nat.mul_one, Nat.one_mul, Nat.zero_add, Nat.add_zero, not_false_eq_true, true_and, and_true, and_self, true_or, or_true, false_or, or_false, ↓reduceIte, reduceCtorEq, gt_iff_lt, ge_iff_le, Option.some.injEq, Nat.lt_add_one, Nat.zero_lt_one, Int.toNat_natCast, decide_true, decide_false, Bool.not_true, Bool.not_false, Bool.not_eq_true, Bool.true_eq_false, not_true_eq_false, beq_iff_eq, bne_iff_ne, Int.natCast_eq_zero, bytesOf_length, x_cond, x_drawn, p_guard, o_guard, Try.ntmps25]
  refine wpLoop_ind (α := Bool × Nat × Bool × Nat × Nat × List UInt8)
    (fun a => ⟨[(0, .pure a.1 (.int .u64 a.2.1)), (1, .pure m' (.int .u64 b)), (5, .row 320 a.2.2.2.2.2.length)], [(320, .row a.2.2.1 a.2.2.2.1 a.2.2.2.2.1 (bytesOf a.2.2.2.2.2))]⟩)
    (fun a => a.2.1 < 18446744073709551616 ∧ (a.2.2.2.1 = 1 ∨ bytesOf a.2.2.2.2.2 = []) ∧ digs b N = digs b a.2.1 ++ a.2.2.2.2.2) (fun a => a.2.1) ?_ (m, N, true, 0, 0, []) ⟨hN, .inr rfl, by simp⟩ rfl
  rintro ⟨m0, n, m1, z, lim, s⟩ ⟨hn, hz, hd⟩
  simp only at hn hz hd
  have hmod : n % b < 16 := Nat.lt_of_lt_of_le (Nat.mod_lt _ (by omega)) hb'
  have hb0 : ¬ ((b : Int) = 0) := by omega
  have hlen : s.length ≤ 64 := by
    have h1 := digs_len hb 63 N (by simpa using hN)
    rw [hd, List.length_append] at h1
    omega
  have hq : n / b < 18446744073709551616 := Nat.lt_of_le_of_lt (Nat.div_le_self _ _) hn
  simp (maxSteps := 200000) -dsimp -implicitDefEqProofs (disch := omega) only [go_sem, wrap_u8, wrap_u16, wrap_u32, wrap_u64, wrap_i32, wrap_i64, List.length_nil, List.length_cons, List.length_append, List.map_cons, List.map_nil, List.replicate, List.set, List.getElem?_cons_zero, List.getElem?_cons_succ, List.take_zero, List.drop_zero, List.take_succ_cons, List.nil_append, List.cons_append, decide_eq_true_eq, Option.getD_some, Option.isNone_none, Option.isSome_some, Bool.false_eq_true, Bool.true_and, Bool.and_true, Bool.or_true, Bool.true_or, Bool.false_or, Bool.or_false, Bool.and_self, Bool.and_false, Bool.false_and, Nat.reduceMul, Nat.reduceAdd, Nat.reduceLT, Nat.reduceLeDiff, Nat.reducePow, Nat.reduceEqDiff, Nat.mul_one, Nat.one_mul, Nat.zero_add, Nat.add_zero, not_false_eq_true, true_and, and_true, and_self, true_or, or_true, false_or, or_false, ↓reduceIte, reduceCtorEq, gt_iff_lt, ge_iff_le, Option.some.injEq, Nat.lt_add_one, Nat.zero_lt_one, Int.toNat_natCast, decide_true, decide_false, Bool.not_true, Bool.not_false, Bool.not_eq_true, Bool.true_eq_false, not_true_eq_false, beq_iff_eq, bne_iff_ne, Int.natCast_eq_zero, bytesOf_length, x_cond, x_drawn, p_guard, o_guard, if_neg hb0]
  refine wpAct_call0 (letter_any (n % b) true hmod) rfl rfl rfl rfl rfl rfl rfl rfl ?_
  simp (maxSteps := 200000) -dsimp -implicitDefEqProofs (disch := omega) only [go_sem, wrap_u8, wrap_u16, wrap_u32, wrap_u64, wrap_i32, wrap_i64, List.length_nil, List.length_cons, List.length_append, List.map_cons, List.map_nil, List.replicate, List.set, List.getElem?_cons_zero, List.getElem?_cons_succ, List.take_zero, List.drop_zero, List.take_succ_cons, List.nil_append, List.cons_append, decide_eq_true_eq, Option.getD_some, Option.isNone_none, Option.isSome_some, Bool.false_eq_true, Bool.true_and, Bool.and_true, Bool.or_true, Bool.true_or, Bool.false_or, Bool.or_false, Bool.and_self, Bool.and_false, Bool.false_and, Nat.reduceMul, Nat.reduceAdd, Nat.reduceLT, Nat.reduceLeDiff, Nat.reducePow, Nat.reduceEqDiff, Nat.mul_one, Nat.one_mul, Nat.zero_add, Nat.add_zero, not_false_eq_true, true_and, and_true, and_self, true_or, or_true, false_or, or_false, ↓reduceIte, reduceCtorEq, gt_iff_lt, ge_iff_le, Option.some.injEq, Nat.lt_add_one, Nat.zero_lt_one, Int.toNat_natCast, decide_true, decide_false, Bool.not_true, Bool.not_false, Bool.not_eq_true, Bool.true_eq_false, not_true_eq_false, beq_iff_eq, bne_iff_ne, Int.natCast_eq_zero, bytesOf_length, x_cond, x_drawn, p_guard, o_guard, hz, if_neg hb0]
  split
  · rename_i hc
    refine end_str rfl ?_
    have : n < b := by
      rcases Nat.lt_or_ge n b with h | h
      · exact h
      · exact absurd (Nat.div_pos h (by omega)) (by omega)
    rw [hd, digs_lt this, Nat.mod_eq_of_lt this]
    rfl
  · rename_i hc
    have : b ≤ n := by
      rcases Nat.lt_or_ge n b with h | h
      · exact absurd (Nat.div_eq_of_lt h) hc
      · exact h
    refine again_mk ⟨(true, n / b, true, 1, 1, sign (n % b) :: s), ⟨hq, .inl rfl, ?_⟩, Nat.div_lt_self (by omega) (by omega), rfl⟩
    rw [hd, digs_ge hb this]
    simp
end Go.Proofs.Ytpcocbgicckcgaa
