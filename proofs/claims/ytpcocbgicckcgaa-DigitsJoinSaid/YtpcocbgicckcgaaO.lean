/- YtpcocbgicckcgaaO: the document's own functions: bytes are read. No claim. -/
import Derived.Test.YtpcocbgicckcgaaN
import Derived.Test.YtpcocbgicckcgaaK
set_option linter.unusedVariables false
set_option linter.unusedSimpArgs false
set_option maxRecDepth 100000
namespace Go.Proofs.Ytpcocbgicckcgaa
open Go Go.Proofs.Ytpcocbgicckcgaa.V

theorem refDigit_16 (c : UInt8) (m m' : Bool) : Runs Try.prog env 28 [.pure m (.int .u8 c.toNat), .pure m' (.int .i64 16)] [] (.pure true (.int .i64 (if dig c < 16 then (dig c : Int) else -1))) [] := refDigit_any c 16 (by omega) m m'

set_option maxHeartbeats 4000000 in
theorem refReadBytes_any (s : List UInt8) (hl : s.length ≤ 1000000) (m : Bool) : ∃ z, (z = 1 ∨ (readB s).getD [] = []) ∧
    Runs Try.prog env 19 [.pure m (.str s)] [] (.tuple [.row 0 ((readB s).getD []).length, .pure true (.bool (readB s).isSome)]) [(0, .row true z 0 (bytesOf ((readB s).getD [])))] := by
  have hno : ¬ goodB s → (if (readB s).getD [] = [] then 0 else 1) = 0 := fun h => by rw [readB_none h]; rfl
  have hyes : goodB s → ∀ z, (z = if s.length = 0 then 0 else 1) → (if (readB s).getD [] = [] then 0 else 1) = z := fun h z hz => by
    rw [readB_some h, hz]
    match s with
    | [] => rfl
    | [c] => simp [decO]
    | a :: b :: r => simp [decO]
  refine ⟨if (readB s).getD [] = [] then 0 else 1, by split <;> simp_all, ?_⟩
  generalize (if (readB s).getD [] = [] then 0 else 1) = Z at hno hyes
  refine Runs.of Try.func19 rfl (by simp [Try.ntmps19]) ?_
  by_cases hodd : s.length % 2 = 1
  · have hg : ¬ goodB s := fun h => by have := h.1; omega
    rw [readB_none hg, hno hg]
    simp (maxSteps := 200000) -dsimp -implicitDefEqProofs (disch := omega) only [go_sem, wrap_u8, wrap_u16, wrap_u32, wrap_u64, wrap_i32, wrap_i64, List.length_nil, List.length_cons, List.length_append, List.map_cons, List.map_nil, List.replicate, List.set, List.getElem?_cons_zero, List.getElem?_cons_succ, List.take_zero, List.drop_zero, List.take_succ_cons, List.nil_append, List.cons_append, decide_eq_true_eq, Option.getD_some, Option.isNone_none, Option.isSome_some, Bool.false_eq_true, Bool.true_and, Bool.and_true, Bool.or_true, Bool.true_or, Bool.false_or, Bool.or_false, Bool.and_self, Bool.and_false, Bool.false_and, Nat.reduceMul, Nat.reduceAdd, Nat.reduceLT, Nat.reduceLeDiff, Nat.reducePow, Nat.reduceEqDiff, Nat.mul_one, Nat.one_mul, Nat.zero_add, Nat.add_zero, not_false_eq_true, true_and, and_true, and_self, true_or, or_true, false_or, or_false, ↓reduceIte, reduceCtorEq, gt_iff_lt, ge_iff_le, Option.some.injEq, Nat.lt_add_one, Nat.zero_lt_one, Int.toNat_natCast, decide_true, decide_false, Bool.not_true, Bool.not_false, Bool.not_eq_true, Bool.true_eq_false, not_true_eq_false, beq_iff_eq, bne_iff_ne, Int.natCast_eq_zero, bytesOf_length, x_cond, x_drawn, p_guard, o_guard, ile_true, ilt_true, ile_false, ilt_false, int_eq, int_ne, int_beq, int_bne, int_beq', int_bne', move_nil, Try.ntmps19, Option.isNone_some, firstFree]
    exact end_row2 rfl rfl rfl rfl rfl rfl rfl
  simp (maxSteps := 200000) -dsimp -implicitDefEqProofs (disch := omega) only [go_sem, wrap_u8, wrap_u16, wrap_u32, wrap_u64, wrap_i32, wrap_i64, List.length_nil, List.length_cons, List.length_append, List.map_cons, List.map_nil, List.replicate, List.set, List.getElem?_cons_zero, List.getElem?_cons_succ, List.take_zero, List.drop_zero, List.take_succ_cons, List.nil_append, List.cons_append, decide_eq_true_eq, Option.getD_some, Option.isNone_none, Option.isSome_some, Bool.false_eq_true, Bool.true_and, Bool.and_true, Bool.or_true, Bool.true_or, Bool.false_or, Bool.or_false, Bool.and_self, Bool.and_false, Bool.false_and, Nat.reduceMul, Nat.reduceAdd, Nat.reduceLT, Nat.reduceLeDiff, Nat.reducePow, Nat.reduceEqDiff, Nat.mul_one, Nat.one_mul, Nat.zero_add, Nat.add_zero, not_false_eq_true, true_and, and_true, and_self, true_or, or_true, false_or, or_false, ↓reduceIte, reduceCtorEq, gt_iff_lt, ge_iff_le, Option.some.injEq, Nat.lt_add_one, Nat.zero_lt_one, Int.toNat_natCast, decide_true, decide_false, Bool.not_true, Bool.not_false, Bool.not_eq_true, Bool.true_eq_false, not_true_eq_false, beq_iff_eq, bne_iff_ne, Int.natCast_eq_zero, bytesOf_length, x_cond, x_drawn, p_guard, o_guard, ile_true, ilt_true, ile_false, ilt_false, int_eq, int_ne, int_beq, int_bne, int_beq', int_bne', move_nil, Try.ntmps19]
  refine wpLoop_ind (α := Nat × Nat × Nat)
    (fun a => ⟨[(0, .pure m (.str s)), (4, .row 672 (decO (s.take (2 * a.1))).length), (5, .pure true (.int .i64 (2 * a.1 : Nat)))], [(672, .row true a.2.2 a.2.1 (bytesOf (decO (s.take (2 * a.1)))))]⟩)
    (fun a => 2 * a.1 ≤ s.length ∧ (a.2.2 = if a.1 = 0 then 0 else 1) ∧ (∀ c ∈ s.take (2 * a.1), dig c < 16)) (fun a => s.length - a.1) ?_ (0, 0, 0) ⟨by simp, rfl, by simp⟩ rfl
  rintro ⟨k, lim, z⟩ ⟨hp, hz, hds⟩
  simp only at hp hz hds
  by_cases hlt : 2 * k < s.length
  · have hlt1 : 2 * k + 1 < s.length := by omega
    have htake : s.take (2 * k) ++ [s[2 * k]] = s.take (2 * k + 1) := List.take_append_getElem hlt
    have htake1 : s.take (2 * k + 1) ++ [s[2 * k + 1]] = s.take (2 * k + 1 + 1) := List.take_append_getElem hlt1
    have hs0 : s[2 * k]? = some s[2 * k] := List.getElem?_eq_getElem hlt
    have hs1 : s[2 * k + 1]? = some s[2 * k + 1] := List.getElem?_eq_getElem hlt1
    have htl : (s.take (2 * k)).length = 2 * k := by rw [List.length_take]; omega
    have hlen := decO_len _ (s.take (2 * k)) (Nat.le_refl _)
    rw [htl] at hlen
    have hc1 : ((2 * k : Nat) : Int) + 1 = ((2 * k + 1 : Nat) : Int) := by omega
    have hc2 : ((2 * k : Nat) : Int) + 2 = ((2 * (k + 1) : Nat) : Int) := by omega
    by_cases hz0 : k = 0
    all_goals
      first | rw [if_pos hz0] at hz | rw [if_neg hz0] at hz
      subst hz
      simp (maxSteps := 200000) -dsimp -implicitDefEqProofs (disch := omega) only [go_sem, wrap_u8, wrap_u16, wrap_u32, wrap_u64, wrap_i32, wrap_i64, List.length_nil, List.length_cons, List.length_append, List.map_cons, List.map_nil, List.replicate, List.set, List.getElem?_cons_zero, List.getElem?_cons_succ, List.take_zero, List.drop_zero, List.take_succ_cons, List.nil_append, List.cons_append, decide_eq_true_eq, Option.getD_some, Option.isNone_none, Option.isSome_some, Bool.false_eq_true, Bool.true_and, Bool.and_true, Bool.or_true, Bool.true_or, Bool.false_or, Bool.or_false, Bool.and_self, Bool.and_false, Bool.false_and, Nat.reduceMul, Nat.reduceAdd, Nat.reduceLT, Nat.reduceLeDiff, Nat.reducePow, Nat.reduceEqDiff, Nat.mul_one, Nat.one_mul, Nat.zero_add, Nat.add_zero, not_false_eq_true, true_and, and_true, and_self, true_or, or_true, false_or, or_false, ↓reduceIte, reduceCtorEq, gt_iff_lt, ge_iff_le, Option.some.injEq, Nat.lt_add_one, Nat.zero_lt_one, Int.toNat_natCast, decide_true, decide_false, Bool.not_true, Bool.not_false, Bool.not_eq_true, Bool.true_eq_false, not_true_eq_false, beq_iff_eq, bne_iff_ne, Int.natCast_eq_zero, bytesOf_length, x_cond, x_drawn, p_guard, o_guard, ile_true, ilt_true, ile_false, ilt_false, int_eq, int_ne, int_beq, int_bne, int_beq', int_bne', move_nil, Try.ntmps19, hs0]
      refine wpAct_call0 (refDigit_16 s[2 * k] _ _) rfl rfl rfl rfl rfl rfl rfl rfl ?_
      simp (maxSteps := 200000) -dsimp -implicitDefEqProofs (disch := omega) only [go_sem, wrap_u8, wrap_u16, wrap_u32, wrap_u64, wrap_i32, wrap_i64, List.length_nil, List.length_cons, List.length_append, List.map_cons, List.map_nil, List.replicate, List.set, List.getElem?_cons_zero, List.getElem?_cons_succ, List.take_zero, List.drop_zero, List.take_succ_cons, List.nil_append, List.cons_append, decide_eq_true_eq, Option.getD_some, Option.isNone_none, Option.isSome_some, Bool.false_eq_true, Bool.true_and, Bool.and_true, Bool.or_true, Bool.true_or, Bool.false_or, Bool.or_false, Bool.and_self, Bool.and_false, Bool.false_and, Nat.reduceMul, Nat.reduceAdd, Nat.reduceLT, Nat.reduceLeDiff, Nat.reducePow, Nat.reduceEqDiff, Nat.mul_one, Nat.one_mul, Nat.zero_add, Nat.add_zero, not_false_eq_true, true_and, and_true, and_self, true_or, or_true, false_or, or_false, ↓reduceIte, reduceCtorEq, gt_iff_lt, ge_iff_le, Option.some.injEq, Nat.lt_add_one, Nat.zero_lt_one, Int.toNat_natCast, decide_true, decide_false, Bool.not_true, Bool.not_false, Bool.not_eq_true, Bool.true_eq_false, not_true_eq_false, beq_iff_eq, bne_iff_ne, Int.natCast_eq_zero, bytesOf_length, x_cond, x_drawn, p_guard, o_guard, ile_true, ilt_true, ile_false, ilt_false, int_eq, int_ne, int_beq, int_bne, int_beq', int_bne', hc1, hs1]
      refine wpAct_call0 (refDigit_16 s[2 * k + 1] _ _) rfl rfl rfl rfl rfl rfl rfl rfl ?_
      by_cases ha : dig s[2 * k] < 16
      · by_cases hb : dig s[2 * k + 1] < 16
        · have hnew : decO (s.take (2 * (k + 1))) = decO (s.take (2 * k)) ++ [UInt8.ofNat (16 * dig s[2 * k] + dig s[2 * k + 1])] := by
            show decO (s.take (2 * k + 1 + 1)) = _
            rw [← htake1, ← htake, List.append_assoc, decO_even k _ _ htl]
            rfl
          have hw := (UInt8.ofNat (16 * dig s[2 * k] + dig s[2 * k + 1])).toNat_lt
          have hvw : (16 : Int) * ((dig s[2 * k] : Nat) : Int) + ((dig s[2 * k + 1] : Nat) : Int) = ((UInt8.ofNat (16 * dig s[2 * k] + dig s[2 * k + 1])).toNat : Int) := by
            rw [UInt8.toNat_ofNat_of_lt' (by show _ < 256; omega)]; omega
          simp (maxSteps := 200000) -dsimp -implicitDefEqProofs (disch := omega) only [go_sem, wrap_u8, wrap_u16, wrap_u32, wrap_u64, wrap_i32, wrap_i64, List.length_nil, List.length_cons, List.length_append, List.map_cons, List.map_nil, List.replicate, List.set, List.getElem?_cons_zero, List.getElem?_cons_succ, List.take_zero, List.drop_zero, List.take_succ_cons, List.nil_append, List.cons_append, decide_eq_true_eq, Option.getD_some, Option.isNone_none, Option.isSome_some, Bool.false_eq_true, Bool.true_and, Bool.and_true, Bool.or_true, Bool.true_or, Bool.false_or, Bool.or_false, Bool.and_self, Bool.and_false, Bool.false_and, Nat.reduceMul, Nat.reduceAdd, Nat.reduceLT, Nat.reduceLeDiff, Nat.reducePow, Nat.reduceEqDiff, Nat.mul_one, Nat.one_mul, Nat.zero_add, Nat.add_zero, not_false_eq_true, true_and, and_true, and_self, true_or, or_true, false_or, or_false, ↓reduceIte, reduceCtorEq, gt_iff_lt, ge_iff_le, Option.some.injEq, Nat.lt_add_one, Nat.zero_lt_one, Int.toNat_natCast, decide_true, decide_false, Bool.not_true, Bool.not_false, Bool.not_eq_true, Bool.true_eq_false, not_true_eq_false, beq_iff_eq, bne_iff_ne, Int.natCast_eq_zero, bytesOf_length, x_cond, x_drawn, p_guard, o_guard, ile_true, ilt_true, ile_false, ilt_false, int_eq, int_ne, int_beq, int_bne, int_beq', int_bne', hvw, hc2, move_nil]
          refine again_mk ⟨(k + 1, (decO (s.take (2 * k))).length, 1), ⟨by show 2 * (k + 1) ≤ _; omega, by simp, ?_⟩, by show _ - (k + 1) < _ - k; omega, ?_⟩
          · show ∀ c ∈ s.take (2 * k + 1 + 1), dig c < 16
            rw [← htake1, ← htake]
            intro c hc
            rw [List.mem_append, List.mem_append, List.mem_singleton, List.mem_singleton] at hc
            rcases hc with (hc | rfl) | rfl
            · exact hds c hc
            · exact ha
            · exact hb
          · simp only [hnew, List.length_append, List.length_cons, List.length_nil]
            rfl
        · have hg : ¬ goodB s := fun h => hb (h.2 _ (List.getElem_mem _))
          rw [readB_none hg, hno hg]
          simp (maxSteps := 200000) -dsimp -implicitDefEqProofs (disch := omega) only [go_sem, wrap_u8, wrap_u16, wrap_u32, wrap_u64, wrap_i32, wrap_i64, List.length_nil, List.length_cons, List.length_append, List.map_cons, List.map_nil, List.replicate, List.set, List.getElem?_cons_zero, List.getElem?_cons_succ, List.take_zero, List.drop_zero, List.take_succ_cons, List.nil_append, List.cons_append, decide_eq_true_eq, Option.getD_some, Option.isNone_none, Option.isSome_some, Bool.false_eq_true, Bool.true_and, Bool.and_true, Bool.or_true, Bool.true_or, Bool.false_or, Bool.or_false, Bool.and_self, Bool.and_false, Bool.false_and, Nat.reduceMul, Nat.reduceAdd, Nat.reduceLT, Nat.reduceLeDiff, Nat.reducePow, Nat.reduceEqDiff, Nat.mul_one, Nat.one_mul, Nat.zero_add, Nat.add_zero, not_false_eq_true, true_and, and_true, and_self, true_or, or_true, false_or, or_false, ↓reduceIte, reduceCtorEq, gt_iff_lt, ge_iff_le, Option.some.injEq, Nat.lt_add_one, Nat.zero_lt_one, Int.toNat_natCast, decide_true, decide_false, Bool.not_true, Bool.not_false, Bool.not_eq_true, Bool.true_eq_false, not_true_eq_false, beq_iff_eq, bne_iff_ne, Int.natCast_eq_zero, bytesOf_length, x_cond, x_drawn, p_guard, o_guard, ile_true, ilt_true, ile_false, ilt_false, int_eq, int_ne, int_beq, int_bne, int_beq', int_bne', move_nil]
          exact end_row2 rfl rfl rfl rfl rfl rfl rfl
      · have hg : ¬ goodB s := fun h => ha (h.2 _ (List.getElem_mem _))
        rw [readB_none hg, hno hg]
        simp (maxSteps := 200000) -dsimp -implicitDefEqProofs (disch := omega) only [go_sem, wrap_u8, wrap_u16, wrap_u32, wrap_u64, wrap_i32, wrap_i64, List.length_nil, List.length_cons, List.length_append, List.map_cons, List.map_nil, List.replicate, List.set, List.getElem?_cons_zero, List.getElem?_cons_succ, List.take_zero, List.drop_zero, List.take_succ_cons, List.nil_append, List.cons_append, decide_eq_true_eq, Option.getD_some, Option.isNone_none, Option.isSome_some, Bool.false_eq_true, Bool.true_and, Bool.and_true, Bool.or_true, Bool.true_or, Bool.false_or, Bool.or_false, Bool.and_self, Bool.and_false, Bool.false_and, Nat.reduceMul, Nat.reduceAdd, Nat.reduceLT, Nat.reduceLeDiff, Nat.reducePow, Nat.reduceEqDiff, Nat.mul_one, Nat.one_mul, Nat.zero_add, Nat.add_zero, not_false_eq_true, true_and, and_true, and_self, true_or, or_true, false_or, or_false, ↓reduceIte, reduceCtorEq, gt_iff_lt, ge_iff_le, Option.some.injEq, Nat.lt_add_one, Nat.zero_lt_one, Int.toNat_natCast, decide_true, decide_false, Bool.not_true, Bool.not_false, Bool.not_eq_true, Bool.true_eq_false, not_true_eq_false, beq_iff_eq, bne_iff_ne, Int.natCast_eq_zero, bytesOf_length, x_cond, x_drawn, p_guard, o_guard, ile_true, ilt_true, ile_false, ilt_false, int_eq, int_ne, int_beq, int_bne, int_beq', int_bne', move_nil]
        exact end_row2 rfl rfl rfl rfl rfl rfl rfl
  · have he : s.take (2 * k) = s := List.take_of_length_le (by omega)
    rw [he] at hds
    have hg : goodB s := ⟨by omega, hds⟩
    rw [readB_some hg, hyes hg z (by
      rw [hz]
      by_cases h : k = 0
      · rw [if_pos h, if_pos (by omega)]
      · rw [if_neg h, if_neg (by omega)])]
    simp (maxSteps := 200000) -dsimp -implicitDefEqProofs (disch := omega) only [go_sem, wrap_u8, wrap_u16, wrap_u32, wrap_u64, wrap_i32, wrap_i64, List.length_nil, List.length_cons, List.length_append, List.map_cons, List.map_nil, List.replicate, List.set, List.getElem?_cons_zero, List.getElem?_cons_succ, List.take_zero, List.drop_zero, List.take_succ_cons, List.nil_append, List.cons_append, decide_eq_true_eq, Option.getD_some, Option.isNone_none, Option.isSome_some, Bool.false_eq_true, Bool.true_and, Bool.and_true, Bool.or_true, Bool.true_or, Bool.false_or, Bool.or_false, Bool.and_self, Bool.and_false, Bool.false_and, Nat.reduceMul, Nat.reduceAdd, Nat.reduceLT, Nat.reduceLeDiff, Nat.reducePow, Nat.reduceEqDiff, Nat.mul_one, Nat.one_mul, Nat.zero_add, Nat.add_zero, not_false_eq_true, true_and, and_true, and_self, true_or, or_true, false_or, or_false, ↓reduceIte, reduceCtorEq, gt_iff_lt, ge_iff_le, Option.some.injEq, Nat.lt_add_one, Nat.zero_lt_one, Int.toNat_natCast, decide_true, decide_false, Bool.not_true, Bool.not_false, Bool.not_eq_true, Bool.true_eq_false, not_true_eq_false, beq_iff_eq, bne_iff_ne, Int.natCast_eq_zero, bytesOf_length, x_cond, x_drawn, p_guard, o_guard, ile_true, ilt_true, ile_false, ilt_false, int_eq, int_ne, int_beq, int_bne, int_beq', int_bne', move_nil, Try.ntmps19, he]
    exact end_row2 rfl rfl rfl (by rw [bytesOf_length]) (allScalar_bytesOf _) rfl rfl
end Go.Proofs.Ytpcocbgicckcgaa
