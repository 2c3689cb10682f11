/- YtpcocbgicckcgaaQ: a text's words. No claim. -/
import Derived.Test.YtpcocbgicckcgaaP
set_option linter.unusedVariables false
set_option linter.unusedSimpArgs false
set_option maxRecDepth 100000
namespace Go.Proofs.Ytpcocbgicckcgaa
open Go Go.Proofs.Ytpcocbgicckcgaa.V

/-- What stands between a text's blanks; what is begun goes ahead. -/
def goW : List UInt8 → List UInt8 → List (List UInt8)
  | [], w => if w = [] then [] else [w]
  | c :: r, w => if c = 32 then (if w = [] then goW r [] else w :: goW r []) else goW r (w ++ [c])
def words (s : List UInt8) : List (List UInt8) := goW s []

theorem row_1s (m : Bool) (z lim : Nat) (w : List UInt8) : Ob.row m z lim [PV.str w] = Ob.row m z lim (strs [w]) := rfl
theorem strs_join (a b : List (List UInt8)) : strs a ++ strs b = strs (a ++ b) := by simp [strs]
theorem allScalar_strs (a : List (List UInt8)) : allScalar (strs a) = true := by
  induction a with
  | nil => rfl
  | cons c r ih => exact ih
theorem drop_at {s : List UInt8} {i : Nat} (h : i < s.length) : s.drop i = s[i] :: s.drop (i + 1) := List.drop_eq_getElem_cons h
theorem cut_1 {s : List UInt8} {i : Nat} (h : i < s.length) : (s.drop i).take (i + 1 - i) = [s[i]] := by
  have : i + 1 - i = 1 := by omega
  rw [this, drop_at h]
  rfl
theorem nil_ne {α : Type} (a : List α) (b : α) : a ++ [b] ≠ [] := by simp

set_option maxHeartbeats 4000000 in
theorem refWords_any (s : List UInt8) (hl : s.length ≤ 1000000) (m : Bool) : ∃ z, (z = 1 ∨ words s = []) ∧
    Runs Try.prog env 22 [.pure m (.str s)] [] (.row 0 (words s).length) [(0, .row true z 0 (strs (words s)))] := by
  refine ⟨if words s = [] then 0 else 1, by split <;> simp_all, ?_⟩
  refine Runs.of Try.func22 rfl (by simp [Try.ntmps22]) ?_
  simp (maxSteps := 200000) -dsimp -implicitDefEqProofs (disch := omega) only [go_sem, wrap_u8, wrap_u16, wrap_u32, wrap_u64, wrap_i32, wrap_i64, List.length_nil, List.length_cons, List.length_append, List.map_cons, List.map_nil, List.replicate, List.set, List.getElem?_cons_zero, List.getElem?_cons_succ, List.take_zero, List.drop_zero, List.take_succ_cons, List.nil_append, List.cons_append, decide_eq_true_eq, Option.getD_some, Option.isNone_none, Option.isSome_some, Bool.false_eq_true, Bool.true_and, Bool.and_true, Bool.or_true, Bool.true_or, Bool.false_or, Bool.or_false, Bool.and_self, Bool.and_false, Bool.false_and, Nat.reduceMul, Nat.reduceAdd, Nat.reduceLT, Nat.reduceLeDiff, Nat.reducePow, Nat.reduceEqDiff, Nat.mul_one, Nat.one_mul, Nat.zero_add, Nat.add_zero, not_false_eq_true, true_and, and_true, and_self, true_or, or_true, false_or, or_false, ↓reduceIte, reduceCtorEq, gt_iff_lt, ge_iff_le, Option.some.injEq, Nat.lt_add_one, Nat.zero_lt_one, Int.toNat_natCast, decide_true, decide_false, Bool.not_true, Bool.not_false, Bool.not_eq_true, Bool.true_eq_false, not_true_eq_false, beq_iff_eq, bne_iff_ne, Int.natCast_eq_zero, bytesOf_length, x_cond, x_drawn, p_guard, o_guard, ile_true, ilt_true, ile_false, ilt_false, int_eq, int_ne, int_beq, int_bne, int_beq', int_bne', move_nil, Try.ntmps22]
  refine wpLoop_ind (α := Nat × List UInt8 × List (List UInt8) × Nat × Nat)
    (fun a => ⟨[(0, .pure m (.str s)), (3, .row 576 a.2.2.1.length), (4, .pure true (.str a.2.1)), (5, .pure true (.int .i64 a.1))], [(576, .row true a.2.2.2.2 a.2.2.2.1 (strs a.2.2.1))]⟩)
    (fun a => a.1 ≤ s.length ∧ words s = a.2.2.1 ++ goW (s.drop a.1) a.2.1 ∧ a.2.2.2.2 = (if a.2.2.1 = [] then 0 else 1) ∧ a.2.2.1.length ≤ a.1 ∧ a.2.1.length ≤ a.1) (fun a => s.length - a.1) ?_ (0, [], [], 0, 0) ⟨by simp, rfl, rfl, by simp, by simp⟩ rfl
  rintro ⟨i, w, out, lim, z⟩ ⟨hi, hw, hz, ho, hwl⟩
  simp only at hi hw hz ho hwl
  have hz01 : z = 1 ∨ z = 0 := by rw [hz]; split <;> simp
  by_cases hlt : i < s.length
  · have hs : s[i]? = some s[i] := List.getElem?_eq_getElem hlt
    have hcut := cut_1 hlt
    rw [drop_at hlt] at hw
    by_cases hc : s[i].toNat = 32
    · have hc' : s[i] = 32 := UInt8.toNat_inj.1 hc
      by_cases h0 : w = []
      · have h1 : (w == []) = true := by simp [h0]
        simp (maxSteps := 200000) -dsimp -implicitDefEqProofs (disch := omega) only [go_sem, wrap_u8, wrap_u16, wrap_u32, wrap_u64, wrap_i32, wrap_i64, List.length_nil, List.length_cons, List.length_append, List.map_cons, List.map_nil, List.replicate, List.set, List.getElem?_cons_zero, List.getElem?_cons_succ, List.take_zero, List.drop_zero, List.take_succ_cons, List.nil_append, List.cons_append, decide_eq_true_eq, Option.getD_some, Option.isNone_none, Option.isSome_some, Bool.false_eq_true, Bool.true_and, Bool.and_true, Bool.or_true, Bool.true_or, Bool.false_or, Bool.or_false, Bool.and_self, Bool.and_false, Bool.false_and, Nat.reduceMul, Nat.reduceAdd, Nat.reduceLT, Nat.reduceLeDiff, Nat.reducePow, Nat.reduceEqDiff, Nat.mul_one, Nat.one_mul, Nat.zero_add, Nat.add_zero, not_false_eq_true, true_and, and_true, and_self, true_or, or_true, false_or, or_false, ↓reduceIte, reduceCtorEq, gt_iff_lt, ge_iff_le, Option.some.injEq, Nat.lt_add_one, Nat.zero_lt_one, Int.toNat_natCast, decide_true, decide_false, Bool.not_true, Bool.not_false, Bool.not_eq_true, Bool.true_eq_false, not_true_eq_false, beq_iff_eq, bne_iff_ne, Int.natCast_eq_zero, bytesOf_length, x_cond, x_drawn, p_guard, o_guard, ile_true, ilt_true, ile_false, ilt_false, int_eq, int_ne, int_beq, int_bne, int_beq', int_bne', move_nil, Try.ntmps22, hs, h1]
        refine again_mk ⟨(i + 1, [], out, lim, z), ⟨by show i + 1 ≤ _; omega, ?_, hz, by show out.length ≤ i + 1; omega, by simp⟩, by show _ - (i + 1) < _ - i; omega, rfl⟩
        rw [hw, goW, if_pos hc', if_pos h0]
      · have h1 : (w == []) = false := by simp [h0]
        simp (maxSteps := 200000) -dsimp -implicitDefEqProofs (disch := omega) only [go_sem, wrap_u8, wrap_u16, wrap_u32, wrap_u64, wrap_i32, wrap_i64, List.length_nil, List.length_cons, List.length_append, List.map_cons, List.map_nil, List.replicate, List.set, List.getElem?_cons_zero, List.getElem?_cons_succ, List.take_zero, List.drop_zero, List.take_succ_cons, List.nil_append, List.cons_append, decide_eq_true_eq, Option.getD_some, Option.isNone_none, Option.isSome_some, Bool.false_eq_true, Bool.true_and, Bool.and_true, Bool.or_true, Bool.true_or, Bool.false_or, Bool.or_false, Bool.and_self, Bool.and_false, Bool.false_and, Nat.reduceMul, Nat.reduceAdd, Nat.reduceLT, Nat.reduceLeDiff, Nat.reducePow, Nat.reduceEqDiff, Nat.mul_one, Nat.one_mul, Nat.zero_add, Nat.add_zero, not_false_eq_true, true_and, and_true, and_self, true_or, or_true, false_or, or_false, ↓reduceIte, reduceCtorEq, gt_iff_lt, ge_iff_le, Option.some.injEq, Nat.lt_add_one, Nat.zero_lt_one, Int.toNat_natCast, decide_true, decide_false, Bool.not_true, Bool.not_false, Bool.not_eq_true, Bool.true_eq_false, not_true_eq_false, beq_iff_eq, bne_iff_ne, Int.natCast_eq_zero, bytesOf_length, x_cond, x_drawn, p_guard, o_guard, ile_true, ilt_true, ile_false, ilt_false, int_eq, int_ne, int_beq, int_bne, int_beq', int_bne', move_nil, Try.ntmps22, hs, h1, strs_length, hz01, row_1s, strs_join, allScalar_strs]
        refine again_mk ⟨(i + 1, [], out ++ [w], out.length, 1), ⟨by show i + 1 ≤ _; omega, ?_, ?_, by simp; omega, by simp⟩, by show _ - (i + 1) < _ - i; omega, ?_⟩
        · rw [hw, goW, if_pos hc', if_neg h0]
          simp
        · rw [if_neg (nil_ne _ _)]
        · simp only [List.length_append, List.length_cons, List.length_nil]
          rfl
    · have hc' : ¬ s[i] = 32 := fun e => hc (by rw [e]; rfl)
      have hmax : ((w.length + 1 : Nat) : Int) ≤ maxStr := by unfold maxStr; omega
      have hc1 : (i : Int) + 1 = ((i + 1 : Nat) : Int) := by omega
      simp (maxSteps := 200000) -dsimp -implicitDefEqProofs (disch := omega) only [go_sem, wrap_u8, wrap_u16, wrap_u32, wrap_u64, wrap_i32, wrap_i64, List.length_nil, List.length_cons, List.length_append, List.map_cons, List.map_nil, List.replicate, List.set, List.getElem?_cons_zero, List.getElem?_cons_succ, List.take_zero, List.drop_zero, List.take_succ_cons, List.nil_append, List.cons_append, decide_eq_true_eq, Option.getD_some, Option.isNone_none, Option.isSome_some, Bool.false_eq_true, Bool.true_and, Bool.and_true, Bool.or_true, Bool.true_or, Bool.false_or, Bool.or_false, Bool.and_self, Bool.and_false, Bool.false_and, Nat.reduceMul, Nat.reduceAdd, Nat.reduceLT, Nat.reduceLeDiff, Nat.reducePow, Nat.reduceEqDiff, Nat.mul_one, Nat.one_mul, Nat.zero_add, Nat.add_zero, not_false_eq_true, true_and, and_true, and_self, true_or, or_true, false_or, or_false, ↓reduceIte, reduceCtorEq, gt_iff_lt, ge_iff_le, Option.some.injEq, Nat.lt_add_one, Nat.zero_lt_one, Int.toNat_natCast, decide_true, decide_false, Bool.not_true, Bool.not_false, Bool.not_eq_true, Bool.true_eq_false, not_true_eq_false, beq_iff_eq, bne_iff_ne, Int.natCast_eq_zero, bytesOf_length, x_cond, x_drawn, p_guard, o_guard, ile_true, ilt_true, ile_false, ilt_false, int_eq, int_ne, int_beq, int_bne, int_beq', int_bne', move_nil, Try.ntmps22, hs, hcut, hmax, hc1]
      refine again_mk ⟨(i + 1, w ++ [s[i]], out, lim, z), ⟨by show i + 1 ≤ _; omega, ?_, hz, by show out.length ≤ i + 1; omega, by simp; omega⟩, by show _ - (i + 1) < _ - i; omega, rfl⟩
      rw [hw, goW, if_neg hc']
  · have he : s.drop i = [] := List.drop_eq_nil_of_le (by omega)
    rw [he] at hw
    by_cases h0 : w = []
    · have h1 : (w == []) = true := by simp [h0]
      rw [goW, if_pos h0, List.append_nil] at hw
      rw [hw, ← hz]
      simp (maxSteps := 200000) -dsimp -implicitDefEqProofs (disch := omega) only [go_sem, wrap_u8, wrap_u16, wrap_u32, wrap_u64, wrap_i32, wrap_i64, List.length_nil, List.length_cons, List.length_append, List.map_cons, List.map_nil, List.replicate, List.set, List.getElem?_cons_zero, List.getElem?_cons_succ, List.take_zero, List.drop_zero, List.take_succ_cons, List.nil_append, List.cons_append, decide_eq_true_eq, Option.getD_some, Option.isNone_none, Option.isSome_some, Bool.false_eq_true, Bool.true_and, Bool.and_true, Bool.or_true, Bool.true_or, Bool.false_or, Bool.or_false, Bool.and_self, Bool.and_false, Bool.false_and, Nat.reduceMul, Nat.reduceAdd, Nat.reduceLT, Nat.reduceLeDiff, Nat.reducePow, Nat.reduceEqDiff, Nat.mul_one, Nat.one_mul, Nat.zero_add, Nat.add_zero, not_false_eq_true, true_and, and_true, and_self, true_or, or_true, false_or, or_false, ↓reduceIte, reduceCtorEq, gt_iff_lt, ge_iff_le, Option.some.injEq, Nat.lt_add_one, Nat.zero_lt_one, Int.toNat_natCast, decide_true, decide_false, Bool.not_true, Bool.not_false, Bool.not_eq_true, Bool.true_eq_false, not_true_eq_false, beq_iff_eq, bne_iff_ne, Int.natCast_eq_zero, bytesOf_length, x_cond, x_drawn, p_guard, o_guard, ile_true, ilt_true, ile_false, ilt_false, int_eq, int_ne, int_beq, int_bne, int_beq', int_bne', move_nil, Try.ntmps22, h1]
      exact end_row rfl rfl (by rw [strs_length]) (allScalar_strs _)
    · have h1 : (w == []) = false := by simp [h0]
      rw [goW, if_neg h0] at hw
      rw [hw, if_neg (nil_ne _ _)]
      simp (maxSteps := 200000) -dsimp -implicitDefEqProofs (disch := omega) only [go_sem, wrap_u8, wrap_u16, wrap_u32, wrap_u64, wrap_i32, wrap_i64, List.length_nil, List.length_cons, List.length_append, List.map_cons, List.map_nil, List.replicate, List.set, List.getElem?_cons_zero, List.getElem?_cons_succ, List.take_zero, List.drop_zero, List.take_succ_cons, List.nil_append, List.cons_append, decide_eq_true_eq, Option.getD_some, Option.isNone_none, Option.isSome_some, Bool.false_eq_true, Bool.true_and, Bool.and_true, Bool.or_true, Bool.true_or, Bool.false_or, Bool.or_false, Bool.and_self, Bool.and_false, Bool.false_and, Nat.reduceMul, Nat.reduceAdd, Nat.reduceLT, Nat.reduceLeDiff, Nat.reducePow, Nat.reduceEqDiff, Nat.mul_one, Nat.one_mul, Nat.zero_add, Nat.add_zero, not_false_eq_true, true_and, and_true, and_self, true_or, or_true, false_or, or_false, ↓reduceIte, reduceCtorEq, gt_iff_lt, ge_iff_le, Option.some.injEq, Nat.lt_add_one, Nat.zero_lt_one, Int.toNat_natCast, decide_true, decide_false, Bool.not_true, Bool.not_false, Bool.not_eq_true, Bool.true_eq_false, not_true_eq_false, beq_iff_eq, bne_iff_ne, Int.natCast_eq_zero, bytesOf_length, x_cond, x_drawn, p_guard, o_guard, ile_true, ilt_true, ile_false, ilt_false, int_eq, int_ne, int_beq, int_bne, int_beq', int_bne', move_nil, Try.ntmps22, h1, strs_length, hz01, row_1s, strs_join, allScalar_strs]
      exact end_row rfl rfl (by rw [strs_length, List.length_append]; rfl) (allScalar_strs _)
end Go.Proofs.Ytpcocbgicckcgaa
