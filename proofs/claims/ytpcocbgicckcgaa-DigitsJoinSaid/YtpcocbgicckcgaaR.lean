/- YtpcocbgicckcgaaR: a text's words, by the program. No claim. -/
import Derived.Test.YtpcocbgicckcgaaQ
set_option linter.unusedVariables false
set_option linter.unusedSimpArgs false
set_option maxRecDepth 100000
namespace Go.Proofs.Ytpcocbgicckcgaa
open Go Go.Proofs.Ytpcocbgicckcgaa.V

def begun (s : List UInt8) (i : Nat) (fr : Int) (w : List UInt8) : Prop := (fr = -1 ∧ w = []) ∨ ∃ f : Nat, fr = f ∧ f < i ∧ w = (s.drop f).take (i - f)

theorem begun_next {s : List UInt8} {i f : Nat} (hf : f ≤ i) (hlt : i < s.length) : (s.drop f).take (i + 1 - f) = (s.drop f).take (i - f) ++ [s[i]] := by
  have h1 : i + 1 - f = (i - f) + 1 := by omega
  have h2 : i - f < (s.drop f).length := by rw [List.length_drop]; omega
  rw [h1, ← List.take_append_getElem h2, List.getElem_drop]
  congr 3
  omega
theorem begun_ne {s : List UInt8} {i f : Nat} (hf : f < i) (hi : i ≤ s.length) : (s.drop f).take (i - f) ≠ [] := by
  intro h
  have := congrArg List.length h
  rw [List.length_take, List.length_drop] at this
  simp at this
  omega

set_option maxHeartbeats 4000000 in
theorem words_any (s : List UInt8) (hl : s.length ≤ 1000000) (m : Bool) : ∃ z, (z = 1 ∨ words s = []) ∧
    Runs Try.prog env 21 [.pure m (.str s)] [] (.row 0 (words s).length) [(0, .row true z 0 (strs (words s)))] := by
  refine ⟨if words s = [] then 0 else 1, by split <;> simp_all, ?_⟩
  refine Runs.of Try.func21 rfl (by simp [Try.ntmps21]) ?_
  simp (maxSteps := 200000) -dsimp -implicitDefEqProofs (disch := omega) only [go_sem, wrap_u8, wrap_u16, wrap_u32, wrap_u64, wrap_i32, wrap_i64, List.length_nil, List.length_cons, List.length_append, List.map_cons, List.map_nil, List.replicate, List.set, List.getElem?_cons_zero, List.getElem?_cons_succ, List.take_zero, List.drop_zero, List.take_succ_cons, List.nil_append, List.cons_append, decide_eq_true_eq, Option.getD_some, Option.isNone_none, Option.isSome_some, Bool.false_eq_true, Bool.true_and, Bool.and_true, Bool.or_true, Bool.true_or, Bool.false_or, Bool.or_false, Bool.and_self, Bool.and_false, Bool.false_and, Nat.reduceMul, Nat.reduceAdd, Nat.reduceLT, Nat.reduceLeDiff, Nat.reducePow, Nat.reduceEqDiff, Nat.mul_one, Nat.one_mul, Nat.zero_add, Nat.add_zero, not_false_eq_true, true_and, and_true, and_self, true_or, or_true, false_or, or_false, ↓reduceIte, reduceCtorEq, gt_iff_lt, ge_iff_le, Option.some.injEq, Nat.lt_add_one, Nat.zero_lt_one, Int.toNat_natCast, decide_true, decide_false, Bool.not_true, Bool.not_false, Bool.not_eq_true, Bool.true_eq_false, not_true_eq_false, beq_iff_eq, bne_iff_ne, Int.natCast_eq_zero, bytesOf_length, x_cond, x_drawn, p_guard, o_guard, ile_true, ilt_true, ile_false, ilt_false, int_eq, int_ne, int_beq, int_bne, int_beq', int_bne', move_nil, Try.ntmps21]
  refine wpLoop_ind (α := Nat × Int × List UInt8 × List (List UInt8) × Nat × Nat)
    (fun a => ⟨[(0, .pure m (.str s)), (3, .row 592 a.2.2.2.1.length), (4, .pure true (.int .i64 a.2.1)), (5, .pure true (.int .i64 a.1))], [(592, .row true a.2.2.2.2.2 a.2.2.2.2.1 (strs a.2.2.2.1))]⟩)
    (fun a => ((a.1 ≤ s.length ∧ words s = a.2.2.2.1 ++ goW (s.drop a.1) a.2.2.1 ∧ begun s a.1 a.2.1 a.2.2.1) ∨ (a.1 = s.length + 1 ∧ words s = a.2.2.2.1)) ∧ a.2.2.2.2.2 = (if a.2.2.2.1 = [] then 0 else 1) ∧ a.2.2.2.1.length ≤ a.1) (fun a => s.length + 1 - a.1) ?_ (0, -1, [], [], 0, 0) ⟨.inl ⟨by simp, rfl, .inl ⟨rfl, rfl⟩⟩, rfl, by simp⟩ rfl
  rintro ⟨i, fr, w, out, lim, z⟩ ⟨hI, hz, ho⟩
  simp only at hI hz ho
  have hz01 : z = 1 ∨ z = 0 := by rw [hz]; split <;> simp
  rcases hI with ⟨hi, hw, hb⟩ | ⟨hi, hw⟩
  · by_cases hsep : i = s.length ∨ ∃ h : i < s.length, s[i].toNat = 32
    · have hgo : goW (s.drop i) w = (if w = [] then [] else [w]) ++ (if i = s.length then [] else goW (s.drop (i + 1)) []) := by
        by_cases e : i = s.length
        · rw [List.drop_eq_nil_of_le (by omega), if_pos e, goW]
          simp
        · obtain ⟨hlt, hc⟩ := hsep.resolve_left e
          have hc' : s[i] = 32 := UInt8.toNat_inj.1 hc
          rw [drop_at hlt, goW, if_pos hc', if_neg e]
          split <;> simp
      have hnext : ∀ o : List (List UInt8), o = out ++ (if w = [] then [] else [w]) → ((i + 1 ≤ s.length ∧ words s = o ++ goW (s.drop (i + 1)) [] ∧ begun s (i + 1) (-1) []) ∨ (i + 1 = s.length + 1 ∧ words s = o)) := by
        intro o ho
        subst ho
        by_cases e : i = s.length
        · rw [hgo, if_pos e, List.append_nil] at hw
          exact .inr ⟨by omega, hw⟩
        · rw [hgo, if_neg e, ← List.append_assoc] at hw
          exact .inl ⟨by omega, hw, .inl ⟨rfl, rfl⟩⟩
      rcases hb with ⟨rfl, rfl⟩ | ⟨f, rfl, hf, rfl⟩
      · have hfin := hnext out (by simp)
        by_cases e : i = s.length
        · simp (maxSteps := 200000) -dsimp -implicitDefEqProofs (disch := omega) only [go_sem, wrap_u8, wrap_u16, wrap_u32, wrap_u64, wrap_i32, wrap_i64, List.length_nil, List.length_cons, List.length_append, List.map_cons, List.map_nil, List.replicate, List.set, List.getElem?_cons_zero, List.getElem?_cons_succ, List.take_zero, List.drop_zero, List.take_succ_cons, List.nil_append, List.cons_append, decide_eq_true_eq, Option.getD_some, Option.isNone_none, Option.isSome_some, Bool.false_eq_true, Bool.true_and, Bool.and_true, Bool.or_true, Bool.true_or, Bool.false_or, Bool.or_false, Bool.and_self, Bool.and_false, Bool.false_and, Nat.reduceMul, Nat.reduceAdd, Nat.reduceLT, Nat.reduceLeDiff, Nat.reducePow, Nat.reduceEqDiff, Nat.mul_one, Nat.one_mul, Nat.zero_add, Nat.add_zero, not_false_eq_true, true_and, and_true, and_self, true_or, or_true, false_or, or_false, ↓reduceIte, reduceCtorEq, gt_iff_lt, ge_iff_le, Option.some.injEq, Nat.lt_add_one, Nat.zero_lt_one, Int.toNat_natCast, decide_true, decide_false, Bool.not_true, Bool.not_false, Bool.not_eq_true, Bool.true_eq_false, not_true_eq_false, beq_iff_eq, bne_iff_ne, Int.natCast_eq_zero, bytesOf_length, x_cond, x_drawn, p_guard, o_guard, ile_true, ilt_true, ile_false, ilt_false, int_eq, int_ne, int_beq, int_bne, int_beq', int_bne', move_nil, Try.ntmps21]
          exact again_mk ⟨(i + 1, -1, [], out, lim, z), ⟨hfin, hz, by show out.length ≤ i + 1; omega⟩, by show _ - (i + 1) < _ - i; omega, rfl⟩
        · obtain ⟨hlt, hc⟩ := hsep.resolve_left e
          have hs : s[i]? = some s[i] := List.getElem?_eq_getElem hlt
          simp (maxSteps := 200000) -dsimp -implicitDefEqProofs (disch := omega) only [go_sem, wrap_u8, wrap_u16, wrap_u32, wrap_u64, wrap_i32, wrap_i64, List.length_nil, List.length_cons, List.length_append, List.map_cons, List.map_nil, List.replicate, List.set, List.getElem?_cons_zero, List.getElem?_cons_succ, List.take_zero, List.drop_zero, List.take_succ_cons, List.nil_append, List.cons_append, decide_eq_true_eq, Option.getD_some, Option.isNone_none, Option.isSome_some, Bool.false_eq_true, Bool.true_and, Bool.and_true, Bool.or_true, Bool.true_or, Bool.false_or, Bool.or_false, Bool.and_self, Bool.and_false, Bool.false_and, Nat.reduceMul, Nat.reduceAdd, Nat.reduceLT, Nat.reduceLeDiff, Nat.reducePow, Nat.reduceEqDiff, Nat.mul_one, Nat.one_mul, Nat.zero_add, Nat.add_zero, not_false_eq_true, true_and, and_true, and_self, true_or, or_true, false_or, or_false, ↓reduceIte, reduceCtorEq, gt_iff_lt, ge_iff_le, Option.some.injEq, Nat.lt_add_one, Nat.zero_lt_one, Int.toNat_natCast, decide_true, decide_false, Bool.not_true, Bool.not_false, Bool.not_eq_true, Bool.true_eq_false, not_true_eq_false, beq_iff_eq, bne_iff_ne, Int.natCast_eq_zero, bytesOf_length, x_cond, x_drawn, p_guard, o_guard, ile_true, ilt_true, ile_false, ilt_false, int_eq, int_ne, int_beq, int_bne, int_beq', int_bne', move_nil, Try.ntmps21, hs]
          exact again_mk ⟨(i + 1, -1, [], out, lim, z), ⟨hfin, hz, by show out.length ≤ i + 1; omega⟩, by show _ - (i + 1) < _ - i; omega, rfl⟩
      · have hne := begun_ne hf hi
        have hfin := hnext (out ++ [(s.drop f).take (i - f)]) (by rw [if_neg hne])
        generalize hwd : (s.drop f).take (i - f) = w at *
        by_cases e : i = s.length
        · simp (maxSteps := 200000) -dsimp -implicitDefEqProofs (disch := omega) only [go_sem, wrap_u8, wrap_u16, wrap_u32, wrap_u64, wrap_i32, wrap_i64, List.length_nil, List.length_cons, List.length_append, List.map_cons, List.map_nil, List.replicate, List.set, List.getElem?_cons_zero, List.getElem?_cons_succ, List.take_zero, List.drop_zero, List.take_succ_cons, List.nil_append, List.cons_append, decide_eq_true_eq, Option.getD_some, Option.isNone_none, Option.isSome_some, Bool.false_eq_true, Bool.true_and, Bool.and_true, Bool.or_true, Bool.true_or, Bool.false_or, Bool.or_false, Bool.and_self, Bool.and_false, Bool.false_and, Nat.reduceMul, Nat.reduceAdd, Nat.reduceLT, Nat.reduceLeDiff, Nat.reducePow, Nat.reduceEqDiff, Nat.mul_one, Nat.one_mul, Nat.zero_add, Nat.add_zero, not_false_eq_true, true_and, and_true, and_self, true_or, or_true, false_or, or_false, ↓reduceIte, reduceCtorEq, gt_iff_lt, ge_iff_le, Option.some.injEq, Nat.lt_add_one, Nat.zero_lt_one, Int.toNat_natCast, decide_true, decide_false, Bool.not_true, Bool.not_false, Bool.not_eq_true, Bool.true_eq_false, not_true_eq_false, beq_iff_eq, bne_iff_ne, Int.natCast_eq_zero, bytesOf_length, x_cond, x_drawn, p_guard, o_guard, ile_true, ilt_true, ile_false, ilt_false, int_eq, int_ne, int_beq, int_bne, int_beq', int_bne', move_nil, Try.ntmps21, hwd, strs_length, hz01, row_1s, strs_join, allScalar_strs]
          refine again_mk ⟨(i + 1, -1, [], out ++ [w], out.length, 1), ⟨hfin, by rw [if_neg (nil_ne _ _)], by simp; omega⟩, by show _ - (i + 1) < _ - i; omega, ?_⟩
          simp only [List.length_append, List.length_cons, List.length_nil]
          rfl
        · obtain ⟨hlt, hc⟩ := hsep.resolve_left e
          have hs : s[i]? = some s[i] := List.getElem?_eq_getElem hlt
          simp (maxSteps := 200000) -dsimp -implicitDefEqProofs (disch := omega) only [go_sem, wrap_u8, wrap_u16, wrap_u32, wrap_u64, wrap_i32, wrap_i64, List.length_nil, List.length_cons, List.length_append, List.map_cons, List.map_nil, List.replicate, List.set, List.getElem?_cons_zero, List.getElem?_cons_succ, List.take_zero, List.drop_zero, List.take_succ_cons, List.nil_append, List.cons_append, decide_eq_true_eq, Option.getD_some, Option.isNone_none, Option.isSome_some, Bool.false_eq_true, Bool.true_and, Bool.and_true, Bool.or_true, Bool.true_or, Bool.false_or, Bool.or_false, Bool.and_self, Bool.and_false, Bool.false_and, Nat.reduceMul, Nat.reduceAdd, Nat.reduceLT, Nat.reduceLeDiff, Nat.reducePow, Nat.reduceEqDiff, Nat.mul_one, Nat.one_mul, Nat.zero_add, Nat.add_zero, not_false_eq_true, true_and, and_true, and_self, true_or, or_true, false_or, or_false, ↓reduceIte, reduceCtorEq, gt_iff_lt, ge_iff_le, Option.some.injEq, Nat.lt_add_one, Nat.zero_lt_one, Int.toNat_natCast, decide_true, decide_false, Bool.not_true, Bool.not_false, Bool.not_eq_true, Bool.true_eq_false, not_true_eq_false, beq_iff_eq, bne_iff_ne, Int.natCast_eq_zero, bytesOf_length, x_cond, x_drawn, p_guard, o_guard, ile_true, ilt_true, ile_false, ilt_false, int_eq, int_ne, int_beq, int_bne, int_beq', int_bne', move_nil, Try.ntmps21, hwd, strs_length, hz01, row_1s, strs_join, allScalar_strs, hs]
          refine again_mk ⟨(i + 1, -1, [], out ++ [w], out.length, 1), ⟨hfin, by rw [if_neg (nil_ne _ _)], by simp; omega⟩, by show _ - (i + 1) < _ - i; omega, ?_⟩
          simp only [List.length_append, List.length_cons, List.length_nil]
          rfl
    · have hlt : i < s.length := by
        rcases Nat.lt_or_ge i s.length with h | h
        · exact h
        · exact absurd (.inl (by omega)) hsep
      have hc : ¬ s[i].toNat = 32 := fun h => hsep (.inr ⟨hlt, h⟩)
      have hc' : ¬ s[i] = 32 := fun e => hc (by rw [e]; rfl)
      have hs : s[i]? = some s[i] := List.getElem?_eq_getElem hlt
      rw [drop_at hlt, goW, if_neg hc'] at hw
      rcases hb with ⟨rfl, rfl⟩ | ⟨f, rfl, hf, rfl⟩
      · simp (maxSteps := 200000) -dsimp -implicitDefEqProofs (disch := omega) only [go_sem, wrap_u8, wrap_u16, wrap_u32, wrap_u64, wrap_i32, wrap_i64, List.length_nil, List.length_cons, List.length_append, List.map_cons, List.map_nil, List.replicate, List.set, List.getElem?_cons_zero, List.getElem?_cons_succ, List.take_zero, List.drop_zero, List.take_succ_cons, List.nil_append, List.cons_append, decide_eq_true_eq, Option.getD_some, Option.isNone_none, Option.isSome_some, Bool.false_eq_true, Bool.true_and, Bool.and_true, Bool.or_true, Bool.true_or, Bool.false_or, Bool.or_false, Bool.and_self, Bool.and_false, Bool.false_and, Nat.reduceMul, Nat.reduceAdd, Nat.reduceLT, Nat.reduceLeDiff, Nat.reducePow, Nat.reduceEqDiff, Nat.mul_one, Nat.one_mul, Nat.zero_add, Nat.add_zero, not_false_eq_true, true_and, and_true, and_self, true_or, or_true, false_or, or_false, ↓reduceIte, reduceCtorEq, gt_iff_lt, ge_iff_le, Option.some.injEq, Nat.lt_add_one, Nat.zero_lt_one, Int.toNat_natCast, decide_true, decide_false, Bool.not_true, Bool.not_false, Bool.not_eq_true, Bool.true_eq_false, not_true_eq_false, beq_iff_eq, bne_iff_ne, Int.natCast_eq_zero, bytesOf_length, x_cond, x_drawn, p_guard, o_guard, ile_true, ilt_true, ile_false, ilt_false, int_eq, int_ne, int_beq, int_bne, int_beq', int_bne', move_nil, Try.ntmps21, hs]
        refine again_mk ⟨(i + 1, (i : Int), [s[i]], out, lim, z), ⟨.inl ⟨by show i + 1 ≤ _; omega, hw, .inr ⟨i, rfl, by show i < i + 1; omega, ?_⟩⟩, hz, by show out.length ≤ i + 1; omega⟩, by show _ - (i + 1) < _ - i; omega, rfl⟩
        exact (cut_1 hlt).symm
      · simp (maxSteps := 200000) -dsimp -implicitDefEqProofs (disch := omega) only [go_sem, wrap_u8, wrap_u16, wrap_u32, wrap_u64, wrap_i32, wrap_i64, List.length_nil, List.length_cons, List.length_append, List.map_cons, List.map_nil, List.replicate, List.set, List.getElem?_cons_zero, List.getElem?_cons_succ, List.take_zero, List.drop_zero, List.take_succ_cons, List.nil_append, List.cons_append, decide_eq_true_eq, Option.getD_some, Option.isNone_none, Option.isSome_some, Bool.false_eq_true, Bool.true_and, Bool.and_true, Bool.or_true, Bool.true_or, Bool.false_or, Bool.or_false, Bool.and_self, Bool.and_false, Bool.false_and, Nat.reduceMul, Nat.reduceAdd, Nat.reduceLT, Nat.reduceLeDiff, Nat.reducePow, Nat.reduceEqDiff, Nat.mul_one, Nat.one_mul, Nat.zero_add, Nat.add_zero, not_false_eq_true, true_and, and_true, and_self, true_or, or_true, false_or, or_false, ↓reduceIte, reduceCtorEq, gt_iff_lt, ge_iff_le, Option.some.injEq, Nat.lt_add_one, Nat.zero_lt_one, Int.toNat_natCast, decide_true, decide_false, Bool.not_true, Bool.not_false, Bool.not_eq_true, Bool.true_eq_false, not_true_eq_false, beq_iff_eq, bne_iff_ne, Int.natCast_eq_zero, bytesOf_length, x_cond, x_drawn, p_guard, o_guard, ile_true, ilt_true, ile_false, ilt_false, int_eq, int_ne, int_beq, int_bne, int_beq', int_bne', move_nil, Try.ntmps21, hs]
        refine again_mk ⟨(i + 1, (f : Int), (s.drop f).take (i - f) ++ [s[i]], out, lim, z), ⟨.inl ⟨by show i + 1 ≤ _; omega, hw, .inr ⟨f, rfl, by show f < i + 1; omega, ?_⟩⟩, hz, by show out.length ≤ i + 1; omega⟩, by show _ - (i + 1) < _ - i; omega, rfl⟩
        exact (begun_next (by omega) hlt).symm
  · simp (maxSteps := 200000) -dsimp -implicitDefEqProofs (disch := omega) only [go_sem, wrap_u8, wrap_u16, wrap_u32, wrap_u64, wrap_i32, wrap_i64, List.length_nil, List.length_cons, List.length_append, List.map_cons, List.map_nil, List.replicate, List.set, List.getElem?_cons_zero, List.getElem?_cons_succ, List.take_zero, List.drop_zero, List.take_succ_cons, List.nil_append, List.cons_append, decide_eq_true_eq, Option.getD_some, Option.isNone_none, Option.isSome_some, Bool.false_eq_true, Bool.true_and, Bool.and_true, Bool.or_true, Bool.true_or, Bool.false_or, Bool.or_false, Bool.and_self, Bool.and_false, Bool.false_and, Nat.reduceMul, Nat.reduceAdd, Nat.reduceLT, Nat.reduceLeDiff, Nat.reducePow, Nat.reduceEqDiff, Nat.mul_one, Nat.one_mul, Nat.zero_add, Nat.add_zero, not_false_eq_true, true_and, and_true, and_self, true_or, or_true, false_or, or_false, ↓reduceIte, reduceCtorEq, gt_iff_lt, ge_iff_le, Option.some.injEq, Nat.lt_add_one, Nat.zero_lt_one, Int.toNat_natCast, decide_true, decide_false, Bool.not_true, Bool.not_false, Bool.not_eq_true, Bool.true_eq_false, not_true_eq_false, beq_iff_eq, bne_iff_ne, Int.natCast_eq_zero, bytesOf_length, x_cond, x_drawn, p_guard, o_guard, ile_true, ilt_true, ile_false, ilt_false, int_eq, int_ne, int_beq, int_bne, int_beq', int_bne', move_nil, Try.ntmps21]
    rw [hw, ← hz]
    exact end_row rfl rfl (by rw [strs_length]) (allScalar_strs _)
end Go.Proofs.Ytpcocbgicckcgaa
