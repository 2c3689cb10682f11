/- YtpcocbgicckcgaaK: the document's own functions: a number is read. No claim. -/
import Derived.Test.YtpcocbgicckcgaaJ
set_option linter.unusedVariables false
set_option linter.unusedSimpArgs false
set_option maxRecDepth 100000
namespace Go.Proofs.Ytpcocbgicckcgaa
open Go Go.Proofs.Ytpcocbgicckcgaa.V

theorem digs_len10 {b : Nat} (hb : 10 ≤ b) : ∀ (k n : Nat), n < 10 ^ (k + 1) → (digs b n).length ≤ k + 1 := by
  intro k
  induction k with
  | zero =>
    intro n h
    rw [digs, dif_pos (.inl (by omega))]
    simp
  | succ k ih =>
    intro n h
    by_cases hc : n < b
    · rw [digs, dif_pos (.inl hc)]
      simp
    · rw [digs, dif_neg (by omega)]
      have h1 : n / b ≤ n / 10 := Nat.div_le_div_left hb (by omega)
      have := ih (n / b) (by omega)
      simp
      omega
theorem wrap_u64m (x : Nat) : IntKind.u64.wrap (x : Int) = ((x % 18446744073709551616 : Nat) : Int) := by
  simp [IntKind.wrap, IntKind.bits, IntKind.signed]

set_option maxHeartbeats 4000000 in
theorem refGet_any (b : Nat) (hb : 10 ≤ b) (hb' : b ≤ 16) (s : List UInt8) (m m' : Bool) :
    Runs Try.prog env 16 [.pure m (.str s), .pure m' (.int .u64 b)] [] (.tuple [.pure true (.int .u64 (((readN b s).getD 0 : Nat) : Int)), .pure true (.bool (readN b s).isSome)]) [] := by
  refine Runs.of Try.func16 rfl (by simp [Try.ntmps16]) ?_
  by_cases h0 : s = []
  · subst h0
    rw [readN_none fun h => h.1.1 rfl]
    simp (maxSteps := 200000) -dsimp -implicitDefEqProofs (disch := omega) only [go_sem, wrap_u8, wrap_u16, wrap_u32, wrap_u64, wrap_i32, wrap_i64, List.length_nil, List.length_cons, List.length_append, List.map_cons, List.map_nil, List.replicate, List.set, List.getElem?_cons_zero, List.getElem?_cons_succ, List.take_zero, List.drop_zero, List.take_succ_cons, List.nil_append, List.cons_append, decide_eq_true_eq, Option.getD_some, Option.isNone_none, Option.isSome_some, Bool.false_eq_true, Bool.true_and, Bool.and_true, Bool.or_true, Bool.true_or, Bool.false_or, Bool.or_false, Bool.and_self, Bool.and_false, Bool.false_and, Nat.reduceMul, Nat.reduceAdd, Nat.reduceLT, Nat.reduceLeDiff, Nat.reducePow, Nat.reduceEqDiff, Nat.mul_one, Nat.one_mul, Nat.zero_add, Nat.add_zero, not_false_eq_true, true_and, and_true, and_self, true_or, or_true, false_or, or_false, ↓reduceIte, reduceCtorEq, gt_iff_lt, ge_iff_le, Option.some.injEq, Nat.lt_add_one, Nat.zero_lt_one, Int.toNat_natCast, decide_true, decide_false, Bool.not_true, Bool.not_false, Bool.not_eq_true, Bool.true_eq_false, not_true_eq_false, beq_iff_eq, bne_iff_ne, Int.natCast_eq_zero, bytesOf_length, x_cond, x_drawn, p_guard, o_guard, ile_true, ilt_true, ile_false, ilt_false, int_eq, int_ne, int_beq, int_bne, int_beq', int_bne', Try.ntmps16]
    exact end_pv2 rfl rfl rfl rfl
  have hpos : 0 < s.length := List.length_pos_iff.2 h0
  by_cases h20 : 20 < s.length
  · rw [readN_none fun h => by
      have h1 := (digs_val (by omega) hb' _ s rfl h.1).1
      have h2 := digs_len10 hb 19 (val b s) (by have := h.2; omega)
      rw [h1] at h2
      omega]
    simp (maxSteps := 200000) -dsimp -implicitDefEqProofs (disch := omega) only [go_sem, wrap_u8, wrap_u16, wrap_u32, wrap_u64, wrap_i32, wrap_i64, List.length_nil, List.length_cons, List.length_append, List.map_cons, List.map_nil, List.replicate, List.set, List.getElem?_cons_zero, List.getElem?_cons_succ, List.take_zero, List.drop_zero, List.take_succ_cons, List.nil_append, List.cons_append, decide_eq_true_eq, Option.getD_some, Option.isNone_none, Option.isSome_some, Bool.false_eq_true, Bool.true_and, Bool.and_true, Bool.or_true, Bool.true_or, Bool.false_or, Bool.or_false, Bool.and_self, Bool.and_false, Bool.false_and, Nat.reduceMul, Nat.reduceAdd, Nat.reduceLT, Nat.reduceLeDiff, Nat.reducePow, Nat.reduceEqDiff, Nat.mul_one, Nat.one_mul, Nat.zero_add, Nat.add_zero, not_false_eq_true, true_and, and_true, and_self, true_or, or_true, false_or, or_false, ↓reduceIte, reduceCtorEq, gt_iff_lt, ge_iff_le, Option.some.injEq, Nat.lt_add_one, Nat.zero_lt_one, Int.toNat_natCast, decide_true, decide_false, Bool.not_true, Bool.not_false, Bool.not_eq_true, Bool.true_eq_false, not_true_eq_false, beq_iff_eq, bne_iff_ne, Int.natCast_eq_zero, bytesOf_length, x_cond, x_drawn, p_guard, o_guard, ile_true, ilt_true, ile_false, ilt_false, int_eq, int_ne, int_beq, int_bne, int_beq', int_bne', Try.ntmps16]
    exact end_pv2 rfl rfl rfl rfl
  simp (maxSteps := 200000) -dsimp -implicitDefEqProofs (disch := omega) only [go_sem, wrap_u8, wrap_u16, wrap_u32, wrap_u64, wrap_i32, wrap_i64, List.length_nil, List.length_cons, List.length_append, List.map_cons, List.map_nil, List.replicate, List.set, List.getElem?_cons_zero, List.getElem?_cons_succ, List.take_zero, List.drop_zero, List.take_succ_cons, List.nil_append, List.cons_append, decide_eq_true_eq, Option.getD_some, Option.isNone_none, Option.isSome_some, Bool.false_eq_true, Bool.true_and, Bool.and_true, Bool.or_true, Bool.true_or, Bool.false_or, Bool.or_false, Bool.and_self, Bool.and_false, Bool.false_and, Nat.reduceMul, Nat.reduceAdd, Nat.reduceLT, Nat.reduceLeDiff, Nat.reducePow, Nat.reduceEqDiff, Nat.mul_one, Nat.one_mul, Nat.zero_add, Nat.add_zero, not_false_eq_true, true_and, and_true, and_self, true_or, or_true, false_or, or_false, ↓reduceIte, reduceCtorEq, gt_iff_lt, ge_iff_le, Option.some.injEq, Nat.lt_add_one, Nat.zero_lt_one, Int.toNat_natCast, decide_true, decide_false, Bool.not_true, Bool.not_false, Bool.not_eq_true, Bool.true_eq_false, not_true_eq_false, beq_iff_eq, bne_iff_ne, Int.natCast_eq_zero, bytesOf_length, x_cond, x_drawn, p_guard, o_guard, ile_true, ilt_true, ile_false, ilt_false, int_eq, int_ne, int_beq, int_bne, int_beq', int_bne', Try.ntmps16]
  refine wpLoop_ind (α := Nat × Nat)
    (fun a => ⟨[(0, .pure m (.str s)), (1, .pure m' (.int .u64 b)), (6, .pure true (.int .u64 a.1)), (7, .pure true (.int .i64 a.2))], []⟩)
    (fun a => a.2 ≤ s.length ∧ a.1 = val b (s.take a.2) % 18446744073709551616 ∧ (∀ c ∈ s.take a.2, dig c < b)) (fun a => s.length - a.2) ?_ (0, 0) ⟨by simp, by simp [val], by simp⟩ rfl
  rintro ⟨n, i⟩ ⟨hi, hn, hd⟩
  simp only at hi hn hd
  have hM : n < 18446744073709551616 := by omega
  by_cases hlt : i < s.length
  · have hs : s[i]? = some s[i] := List.getElem?_eq_getElem hlt
    have htake : s.take i ++ [s[i]] = s.take (i + 1) := List.take_append_getElem hlt
    have hval : val b (s.take (i + 1)) = val b (s.take i) * b + dig s[i] := by rw [← htake, val_snoc]
    simp (maxSteps := 200000) -dsimp -implicitDefEqProofs (disch := omega) only [go_sem, wrap_u8, wrap_u16, wrap_u32, wrap_u64, wrap_i32, wrap_i64, List.length_nil, List.length_cons, List.length_append, List.map_cons, List.map_nil, List.replicate, List.set, List.getElem?_cons_zero, List.getElem?_cons_succ, List.take_zero, List.drop_zero, List.take_succ_cons, List.nil_append, List.cons_append, decide_eq_true_eq, Option.getD_some, Option.isNone_none, Option.isSome_some, Bool.false_eq_true, Bool.true_and, Bool.and_true, Bool.or_true, Bool.true_or, Bool.false_or, Bool.or_false, Bool.and_self, Bool.and_false, Bool.false_and, Nat.reduceMul, Nat.reduceAdd, Nat.reduceLT, Nat.reduceLeDiff, Nat.reducePow, Nat.reduceEqDiff, Nat.mul_one, Nat.one_mul, Nat.zero_add, Nat.add_zero, not_false_eq_true, true_and, and_true, and_self, true_or, or_true, false_or, or_false, ↓reduceIte, reduceCtorEq, gt_iff_lt, ge_iff_le, Option.some.injEq, Nat.lt_add_one, Nat.zero_lt_one, Int.toNat_natCast, decide_true, decide_false, Bool.not_true, Bool.not_false, Bool.not_eq_true, Bool.true_eq_false, not_true_eq_false, beq_iff_eq, bne_iff_ne, Int.natCast_eq_zero, bytesOf_length, x_cond, x_drawn, p_guard, o_guard, ile_true, ilt_true, ile_false, ilt_false, int_eq, int_ne, int_beq, int_bne, int_beq', int_bne', Try.ntmps16, hs]
    refine wpAct_call0 (refDigit_any s[i] b hb' _ _) rfl rfl rfl rfl rfl rfl rfl rfl ?_
    by_cases h1 : dig s[i] < b
    · have hx2 : (n : Int) * (b : Int) = ((n * b : Nat) : Int) := (Int.natCast_mul n b).symm
      have hx3 : ((n * b % 18446744073709551616 : Nat) : Int) + (dig s[i] : Int) = ((n * b % 18446744073709551616 + dig s[i] : Nat) : Int) := by omega
      simp (maxSteps := 200000) -dsimp -implicitDefEqProofs (disch := omega) only [go_sem, wrap_u8, wrap_u16, wrap_u32, wrap_u64, wrap_i32, wrap_i64, List.length_nil, List.length_cons, List.length_append, List.map_cons, List.map_nil, List.replicate, List.set, List.getElem?_cons_zero, List.getElem?_cons_succ, List.take_zero, List.drop_zero, List.take_succ_cons, List.nil_append, List.cons_append, decide_eq_true_eq, Option.getD_some, Option.isNone_none, Option.isSome_some, Bool.false_eq_true, Bool.true_and, Bool.and_true, Bool.or_true, Bool.true_or, Bool.false_or, Bool.or_false, Bool.and_self, Bool.and_false, Bool.false_and, Nat.reduceMul, Nat.reduceAdd, Nat.reduceLT, Nat.reduceLeDiff, Nat.reducePow, Nat.reduceEqDiff, Nat.mul_one, Nat.one_mul, Nat.zero_add, Nat.add_zero, not_false_eq_true, true_and, and_true, and_self, true_or, or_true, false_or, or_false, ↓reduceIte, reduceCtorEq, gt_iff_lt, ge_iff_le, Option.some.injEq, Nat.lt_add_one, Nat.zero_lt_one, Int.toNat_natCast, decide_true, decide_false, Bool.not_true, Bool.not_false, Bool.not_eq_true, Bool.true_eq_false, not_true_eq_false, beq_iff_eq, bne_iff_ne, Int.natCast_eq_zero, bytesOf_length, x_cond, x_drawn, p_guard, o_guard, ile_true, ilt_true, ile_false, ilt_false, int_eq, int_ne, int_beq, int_bne, int_beq', int_bne', hx2, hx3, wrap_u64m]
      refine again_mk ⟨((n * b % 18446744073709551616 + dig s[i]) % 18446744073709551616, i + 1), ⟨by show i + 1 ≤ s.length; omega, ?_, ?_⟩, by show s.length - (i + 1) < s.length - i; omega, rfl⟩
      · show (n * b % 18446744073709551616 + dig s[i]) % 18446744073709551616 = val b (s.take (i + 1)) % 18446744073709551616
        rw [hval, hn, Nat.add_mod, Nat.mod_mod, Nat.mod_mul_mod, ← Nat.add_mod]
      · show ∀ c ∈ s.take (i + 1), dig c < b
        rw [← htake]
        intro c hc
        rw [List.mem_append, List.mem_singleton] at hc
        rcases hc with hc | rfl
        · exact hd c hc
        · exact h1
    · rw [readN_none fun h => h1 (h.1.2.1 s[i] (List.getElem_mem _))]
      simp (maxSteps := 200000) -dsimp -implicitDefEqProofs (disch := omega) only [go_sem, wrap_u8, wrap_u16, wrap_u32, wrap_u64, wrap_i32, wrap_i64, List.length_nil, List.length_cons, List.length_append, List.map_cons, List.map_nil, List.replicate, List.set, List.getElem?_cons_zero, List.getElem?_cons_succ, List.take_zero, List.drop_zero, List.take_succ_cons, List.nil_append, List.cons_append, decide_eq_true_eq, Option.getD_some, Option.isNone_none, Option.isSome_some, Bool.false_eq_true, Bool.true_and, Bool.and_true, Bool.or_true, Bool.true_or, Bool.false_or, Bool.or_false, Bool.and_self, Bool.and_false, Bool.false_and, Nat.reduceMul, Nat.reduceAdd, Nat.reduceLT, Nat.reduceLeDiff, Nat.reducePow, Nat.reduceEqDiff, Nat.mul_one, Nat.one_mul, Nat.zero_add, Nat.add_zero, not_false_eq_true, true_and, and_true, and_self, true_or, or_true, false_or, or_false, ↓reduceIte, reduceCtorEq, gt_iff_lt, ge_iff_le, Option.some.injEq, Nat.lt_add_one, Nat.zero_lt_one, Int.toNat_natCast, decide_true, decide_false, Bool.not_true, Bool.not_false, Bool.not_eq_true, Bool.true_eq_false, not_true_eq_false, beq_iff_eq, bne_iff_ne, Int.natCast_eq_zero, bytesOf_length, x_cond, x_drawn, p_guard, o_guard, ile_true, ilt_true, ile_false, ilt_false, int_eq, int_ne, int_beq, int_bne, int_beq', int_bne']
      exact end_pv2 rfl rfl rfl rfl
  · have he : s.take i = s := List.take_of_length_le (by omega)
    rw [he] at hn hd
    simp (maxSteps := 200000) -dsimp -implicitDefEqProofs (disch := omega) only [go_sem, wrap_u8, wrap_u16, wrap_u32, wrap_u64, wrap_i32, wrap_i64, List.length_nil, List.length_cons, List.length_append, List.map_cons, List.map_nil, List.replicate, List.set, List.getElem?_cons_zero, List.getElem?_cons_succ, List.take_zero, List.drop_zero, List.take_succ_cons, List.nil_append, List.cons_append, decide_eq_true_eq, Option.getD_some, Option.isNone_none, Option.isSome_some, Bool.false_eq_true, Bool.true_and, Bool.and_true, Bool.or_true, Bool.true_or, Bool.false_or, Bool.or_false, Bool.and_self, Bool.and_false, Bool.false_and, Nat.reduceMul, Nat.reduceAdd, Nat.reduceLT, Nat.reduceLeDiff, Nat.reducePow, Nat.reduceEqDiff, Nat.mul_one, Nat.one_mul, Nat.zero_add, Nat.add_zero, not_false_eq_true, true_and, and_true, and_self, true_or, or_true, false_or, or_false, ↓reduceIte, reduceCtorEq, gt_iff_lt, ge_iff_le, Option.some.injEq, Nat.lt_add_one, Nat.zero_lt_one, Int.toNat_natCast, decide_true, decide_false, Bool.not_true, Bool.not_false, Bool.not_eq_true, Bool.true_eq_false, not_true_eq_false, beq_iff_eq, bne_iff_ne, Int.natCast_eq_zero, bytesOf_length, x_cond, x_drawn, p_guard, o_guard, ile_true, ilt_true, ile_false, ilt_false, int_eq, int_ne, int_beq, int_bne, int_beq', int_bne', Try.ntmps16]
    refine wpAct_call0 (refPut_any b (by omega) hb' n hM _ _) rfl rfl rfl rfl rfl rfl rfl rfl ?_
    by_cases h2 : digs b n = s
    · have h3 : (digs b n == s) = true := by simp [h2]
      have h4 : readN b s = some n := by rw [← h2]; exact readN_digs (by omega) hb' hM
      rw [h4]
      simp (maxSteps := 200000) -dsimp -implicitDefEqProofs (disch := omega) only [go_sem, wrap_u8, wrap_u16, wrap_u32, wrap_u64, wrap_i32, wrap_i64, List.length_nil, List.length_cons, List.length_append, List.map_cons, List.map_nil, List.replicate, List.set, List.getElem?_cons_zero, List.getElem?_cons_succ, List.take_zero, List.drop_zero, List.take_succ_cons, List.nil_append, List.cons_append, decide_eq_true_eq, Option.getD_some, Option.isNone_none, Option.isSome_some, Bool.false_eq_true, Bool.true_and, Bool.and_true, Bool.or_true, Bool.true_or, Bool.false_or, Bool.or_false, Bool.and_self, Bool.and_false, Bool.false_and, Nat.reduceMul, Nat.reduceAdd, Nat.reduceLT, Nat.reduceLeDiff, Nat.reducePow, Nat.reduceEqDiff, Nat.mul_one, Nat.one_mul, Nat.zero_add, Nat.add_zero, not_false_eq_true, true_and, and_true, and_self, true_or, or_true, false_or, or_false, ↓reduceIte, reduceCtorEq, gt_iff_lt, ge_iff_le, Option.some.injEq, Nat.lt_add_one, Nat.zero_lt_one, Int.toNat_natCast, decide_true, decide_false, Bool.not_true, Bool.not_false, Bool.not_eq_true, Bool.true_eq_false, not_true_eq_false, beq_iff_eq, bne_iff_ne, Int.natCast_eq_zero, bytesOf_length, x_cond, x_drawn, p_guard, o_guard, ile_true, ilt_true, ile_false, ilt_false, int_eq, int_ne, int_beq, int_bne, int_beq', int_bne', h3]
      exact end_pv2 rfl rfl rfl rfl
    · have h3 : (digs b n == s) = false := by simp [h2]
      rw [readN_none fun h => h2 (by
        rw [hn, Nat.mod_eq_of_lt h.2]
        exact (digs_val (by omega) hb' _ s rfl h.1).1)]
      simp (maxSteps := 200000) -dsimp -implicitDefEqProofs (disch := omega) only [go_sem, wrap_u8, wrap_u16, wrap_u32, wrap_u64, wrap_i32, wrap_i64, List.length_nil, List.length_cons, List.length_append, List.map_cons, List.map_nil, List.replicate, List.set, List.getElem?_cons_zero, List.getElem?_cons_succ, List.take_zero, List.drop_zero, List.take_succ_cons, List.nil_append, List.cons_append, decide_eq_true_eq, Option.getD_some, Option.isNone_none, Option.isSome_some, Bool.false_eq_true, Bool.true_and, Bool.and_true, Bool.or_true, Bool.true_or, Bool.false_or, Bool.or_false, Bool.and_self, Bool.and_false, Bool.false_and, Nat.reduceMul, Nat.reduceAdd, Nat.reduceLT, Nat.reduceLeDiff, Nat.reducePow, Nat.reduceEqDiff, Nat.mul_one, Nat.one_mul, Nat.zero_add, Nat.add_zero, not_false_eq_true, true_and, and_true, and_self, true_or, or_true, false_or, or_false, ↓reduceIte, reduceCtorEq, gt_iff_lt, ge_iff_le, Option.some.injEq, Nat.lt_add_one, Nat.zero_lt_one, Int.toNat_natCast, decide_true, decide_false, Bool.not_true, Bool.not_false, Bool.not_eq_true, Bool.true_eq_false, not_true_eq_false, beq_iff_eq, bne_iff_ne, Int.natCast_eq_zero, bytesOf_length, x_cond, x_drawn, p_guard, o_guard, ile_true, ilt_true, ile_false, ilt_false, int_eq, int_ne, int_beq, int_bne, int_beq', int_bne', h3]
      exact end_pv2 rfl rfl rfl rfl
end Go.Proofs.Ytpcocbgicckcgaa
