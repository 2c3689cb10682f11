/- YtpcocbgicckcgaaM: bytes' digits. No claim. -/
import Derived.Test.YtpcocbgicckcgaaD
set_option linter.unusedVariables false
set_option linter.unusedSimpArgs false
set_option maxRecDepth 100000
namespace Go.Proofs.Ytpcocbgicckcgaa
open Go Go.Proofs.Ytpcocbgicckcgaa.V

theorem move_nil (nk : Nat) (look : Nat → Option Ob) (x : SV) : moveV nk look true x = if (look nk).isNone = true then some { res := .row nk 0, wr := [(nk, .row true 0 0 [])], rd := some ((List.range 16).map (nk + ·)) } else
    match firstFree look (nk + 1) 15 with
    | some k => some { res := .row k 0, wr := [(k, .row true 0 0 [])], rd := some ((List.range 16).map (nk + ·)) }
    | none => none := by
  unfold moveV
  rw [if_pos rfl]
  rw [firstFree]
  by_cases h : (look nk).isNone = true
  · rw [if_pos h, if_pos h]
  · rw [if_neg h, if_neg h]
    generalize firstFree look (nk + 1) 15 = q
    cases q <;> rfl

def hex2 (c : UInt8) : List UInt8 := [sign (c.toNat / 16), sign (c.toNat % 16)]
def hexs (l : List UInt8) : List UInt8 := l.flatMap hex2
theorem hexs_snoc (l : List UInt8) (c : UInt8) : hexs (l ++ [c]) = hexs l ++ [sign (c.toNat / 16), sign (c.toNat % 16)] := by simp [hexs, hex2]
theorem hexs_len (l : List UInt8) : (hexs l).length = 2 * l.length := by
  induction l with
  | nil => rfl
  | cons c r ih =>
    have : hexs (c :: r) = hex2 c ++ hexs r := by simp [hexs]
    rw [this, List.length_append, ih]
    simp [hex2]
    omega
theorem bytesOf_fold (c : UInt8) (l : List UInt8) : PV.int .u8 c.toNat :: bytesOf l = bytesOf (c :: l) := rfl

set_option maxHeartbeats 4000000 in
theorem bytes_any (bs : List UInt8) (hl : bs.length ≤ 100000) (m : Bool) : Runs Try.prog env 13 [.pure m (.sl (bytesOf bs))] [] (.pure true (.str (hexs bs))) [] := by
  refine Runs.of Try.func13 rfl (by simp [Try.ntmps13]) ?_
  simp (maxSteps := 200000) -dsimp -implicitDefEqProofs (disch := omega) only [go_sem, wrap_u8, wrap_u16, wrap_u32, wrap_u64, wrap_i32, wrap_i64, List.length_nil, List.length_cons, List.length_append, List.map_cons, List.map_nil, List.replicate, List.set, List.getElem?_cons_zero, List.getElem?_cons_succ, List.take_zero, List.drop_zero, List.take_succ_cons, List.nil_append, List.cons_append, decide_eq_true_eq, Option.getD_some, Option.isNone_none, Option.isSome_some, Bool.false_eq_true, Bool.true_and, Bool.and_true, Bool.or_true, Bool.true_or, Bool.false_or, Bool.or_false, Bool.and_self, Bool.and_false, Bool.false_and, Nat.reduceMul, Nat.reduceAdd, Nat.reduceLT, Nat.reduceLeDiff, Nat.reducePow, Nat.reduceEqDiff, Nat.mul_one, Nat.one_mul, Nat.zero_add, Nat.add_zero, not_false_eq_true, true_and, and_true, and_self, true_or, or_true, false_or, or_false, ↓reduceIte, reduceCtorEq, gt_iff_lt, ge_iff_le, Option.some.injEq, Nat.lt_add_one, Nat.zero_lt_one, Int.toNat_natCast, decide_true, decide_false, Bool.not_true, Bool.not_false, Bool.not_eq_true, Bool.true_eq_false, not_true_eq_false, beq_iff_eq, bne_iff_ne, Int.natCast_eq_zero, bytesOf_length, x_cond, x_drawn, p_guard, o_guard, ile_true, ilt_true, ile_false, ilt_false, int_eq, int_ne, int_beq, int_bne, int_beq', int_bne', Try.ntmps13]
  refine wpLoop_ind (α := Nat × Nat)
    (fun a => ⟨[(3, .row 480 (hexs (bs.take a.1)).length), (10, .pure m (.sl (bytesOf bs))), (11, .pure true (.int .i64 bs.length)), (12, .pure true (.int .i64 a.1))], [(480, .row true 1 a.2 (bytesOf (hexs (bs.take a.1))))]⟩)
    (fun a => a.1 ≤ bs.length) (fun a => bs.length - a.1) ?_ (0, 0) (by simp) rfl
  rintro ⟨i, lim⟩ hi
  simp only at hi
  by_cases hlt : i < bs.length
  · have hs : bs[i]? = some bs[i] := List.getElem?_eq_getElem hlt
    have htake : bs.take i ++ [bs[i]] = bs.take (i + 1) := List.take_append_getElem hlt
    have hhex := hexs_snoc (bs.take i) bs[i]
    rw [htake] at hhex
    have hlen := hexs_len (bs.take i)
    have hlen' : (bs.take i).length ≤ 100000 := by rw [List.length_take]; omega
    have hc := bs[i].toNat_lt
    simp (maxSteps := 200000) -dsimp -implicitDefEqProofs (disch := omega) only [go_sem, wrap_u8, wrap_u16, wrap_u32, wrap_u64, wrap_i32, wrap_i64, List.length_nil, List.length_cons, List.length_append, List.map_cons, List.map_nil, List.replicate, List.set, List.getElem?_cons_zero, List.getElem?_cons_succ, List.take_zero, List.drop_zero, List.take_succ_cons, List.nil_append, List.cons_append, decide_eq_true_eq, Option.getD_some, Option.isNone_none, Option.isSome_some, Bool.false_eq_true, Bool.true_and, Bool.and_true, Bool.or_true, Bool.true_or, Bool.false_or, Bool.or_false, Bool.and_self, Bool.and_false, Bool.false_and, Nat.reduceMul, Nat.reduceAdd, Nat.reduceLT, Nat.reduceLeDiff, Nat.reducePow, Nat.reduceEqDiff, Nat.mul_one, Nat.one_mul, Nat.zero_add, Nat.add_zero, not_false_eq_true, true_and, and_true, and_self, true_or, or_true, false_or, or_false, ↓reduceIte, reduceCtorEq, gt_iff_lt, ge_iff_le, Option.some.injEq, Nat.lt_add_one, Nat.zero_lt_one, Int.toNat_natCast, decide_true, decide_false, Bool.not_true, Bool.not_false, Bool.not_eq_true, Bool.true_eq_false, not_true_eq_false, beq_iff_eq, bne_iff_ne, Int.natCast_eq_zero, bytesOf_length, x_cond, x_drawn, p_guard, o_guard, ile_true, ilt_true, ile_false, ilt_false, int_eq, int_ne, int_beq, int_bne, int_beq', int_bne', Try.ntmps13, bytesOf_get, hs]
    refine wpAct_call0 (letter_any (bs[i].toNat / 16) _ (by omega)) rfl rfl rfl rfl rfl rfl rfl rfl ?_
    simp (maxSteps := 200000) -dsimp -implicitDefEqProofs (disch := omega) only [go_sem, wrap_u8, wrap_u16, wrap_u32, wrap_u64, wrap_i32, wrap_i64, List.length_nil, List.length_cons, List.length_append, List.map_cons, List.map_nil, List.replicate, List.set, List.getElem?_cons_zero, List.getElem?_cons_succ, List.take_zero, List.drop_zero, List.take_succ_cons, List.nil_append, List.cons_append, decide_eq_true_eq, Option.getD_some, Option.isNone_none, Option.isSome_some, Bool.false_eq_true, Bool.true_and, Bool.and_true, Bool.or_true, Bool.true_or, Bool.false_or, Bool.or_false, Bool.and_self, Bool.and_false, Bool.false_and, Nat.reduceMul, Nat.reduceAdd, Nat.reduceLT, Nat.reduceLeDiff, Nat.reducePow, Nat.reduceEqDiff, Nat.mul_one, Nat.one_mul, Nat.zero_add, Nat.add_zero, not_false_eq_true, true_and, and_true, and_self, true_or, or_true, false_or, or_false, ↓reduceIte, reduceCtorEq, gt_iff_lt, ge_iff_le, Option.some.injEq, Nat.lt_add_one, Nat.zero_lt_one, Int.toNat_natCast, decide_true, decide_false, Bool.not_true, Bool.not_false, Bool.not_eq_true, Bool.true_eq_false, not_true_eq_false, beq_iff_eq, bne_iff_ne, Int.natCast_eq_zero, bytesOf_length, x_cond, x_drawn, p_guard, o_guard, ile_true, ilt_true, ile_false, ilt_false, int_eq, int_ne, int_beq, int_bne, int_beq', int_bne']
    refine wpAct_call0 (letter_any (bs[i].toNat % 16) _ (by omega)) rfl rfl rfl rfl rfl rfl rfl rfl ?_
    simp (maxSteps := 200000) -dsimp -implicitDefEqProofs (disch := omega) only [go_sem, wrap_u8, wrap_u16, wrap_u32, wrap_u64, wrap_i32, wrap_i64, List.length_nil, List.length_cons, List.length_append, List.map_cons, List.map_nil, List.replicate, List.set, List.getElem?_cons_zero, List.getElem?_cons_succ, List.take_zero, List.drop_zero, List.take_succ_cons, List.nil_append, List.cons_append, decide_eq_true_eq, Option.getD_some, Option.isNone_none, Option.isSome_some, Bool.false_eq_true, Bool.true_and, Bool.and_true, Bool.or_true, Bool.true_or, Bool.false_or, Bool.or_false, Bool.and_self, Bool.and_false, Bool.false_and, Nat.reduceMul, Nat.reduceAdd, Nat.reduceLT, Nat.reduceLeDiff, Nat.reducePow, Nat.reduceEqDiff, Nat.mul_one, Nat.one_mul, Nat.zero_add, Nat.add_zero, not_false_eq_true, true_and, and_true, and_self, true_or, or_true, false_or, or_false, ↓reduceIte, reduceCtorEq, gt_iff_lt, ge_iff_le, Option.some.injEq, Nat.lt_add_one, Nat.zero_lt_one, Int.toNat_natCast, decide_true, decide_false, Bool.not_true, Bool.not_false, Bool.not_eq_true, Bool.true_eq_false, not_true_eq_false, beq_iff_eq, bne_iff_ne, Int.natCast_eq_zero, bytesOf_length, x_cond, x_drawn, p_guard, o_guard, ile_true, ilt_true, ile_false, ilt_false, int_eq, int_ne, int_beq, int_bne, int_beq', int_bne', bytesOf_fold]
    refine again_mk ⟨(i + 1, (hexs (bs.take i)).length), by show i + 1 ≤ _; omega, by show _ - (i + 1) < _ - i; omega, ?_⟩
    simp only [hhex, List.length_append, List.length_cons, List.length_nil]
    rfl
  · have he : bs.take i = bs := List.take_of_length_le (by omega)
    simp (maxSteps := 200000) -dsimp -implicitDefEqProofs (disch := omega) only [go_sem, wrap_u8, wrap_u16, wrap_u32, wrap_u64, wrap_i32, wrap_i64, List.length_nil, List.length_cons, List.length_append, List.map_cons, List.map_nil, List.replicate, List.set, List.getElem?_cons_zero, List.getElem?_cons_succ, List.take_zero, List.drop_zero, List.take_succ_cons, List.nil_append, List.cons_append, decide_eq_true_eq, Option.getD_some, Option.isNone_none, Option.isSome_some, Bool.false_eq_true, Bool.true_and, Bool.and_true, Bool.or_true, Bool.true_or, Bool.false_or, Bool.or_false, Bool.and_self, Bool.and_false, Bool.false_and, Nat.reduceMul, Nat.reduceAdd, Nat.reduceLT, Nat.reduceLeDiff, Nat.reducePow, Nat.reduceEqDiff, Nat.mul_one, Nat.one_mul, Nat.zero_add, Nat.add_zero, not_false_eq_true, true_and, and_true, and_self, true_or, or_true, false_or, or_false, ↓reduceIte, reduceCtorEq, gt_iff_lt, ge_iff_le, Option.some.injEq, Nat.lt_add_one, Nat.zero_lt_one, Int.toNat_natCast, decide_true, decide_false, Bool.not_true, Bool.not_false, Bool.not_eq_true, Bool.true_eq_false, not_true_eq_false, beq_iff_eq, bne_iff_ne, Int.natCast_eq_zero, bytesOf_length, x_cond, x_drawn, p_guard, o_guard, ile_true, ilt_true, ile_false, ilt_false, int_eq, int_ne, int_beq, int_bne, int_beq', int_bne', Try.ntmps13]
    exact end_str rfl (by rw [he])

theorem signs_cut' (i : Nat) (h : i < 16) : (([48, 49, 50, 51, 52, 53, 54, 55, 56, 57, 97, 98, 99, 100, 101, 102] : List UInt8).drop i).take (i + 1 - i) = [sign i] := by
  have : ∀ i : Fin 16, (([48, 49, 50, 51, 52, 53, 54, 55, 56, 57, 97, 98, 99, 100, 101, 102] : List UInt8).drop i.val).take (i.val + 1 - i.val) = [sign i.val] := by decide
  exact this ⟨i, h⟩

set_option maxHeartbeats 4000000 in
theorem refBytes_any (bs : List UInt8) (hl : bs.length ≤ 100000) (m : Bool) : Runs Try.prog env 14 [.pure m (.sl (bytesOf bs))] [] (.pure true (.str (hexs bs))) [] := by
  refine Runs.of Try.func14 rfl (by simp [Try.ntmps14]) ?_
  simp (maxSteps := 200000) -dsimp -implicitDefEqProofs (disch := omega) only [go_sem, wrap_u8, wrap_u16, wrap_u32, wrap_u64, wrap_i32, wrap_i64, List.length_nil, List.length_cons, List.length_append, List.map_cons, List.map_nil, List.replicate, List.set, List.getElem?_cons_zero, List.getElem?_cons_succ, List.take_zero, List.drop_zero, List.take_succ_cons, List.nil_append, List.cons_append, decide_eq_true_eq, Option.getD_some, Option.isNone_none, Option.isSome_some, Bool.false_eq_true, Bool.true_and, Bool.and_true, Bool.or_true, Bool.true_or, Bool.false_or, Bool.or_false, Bool.and_self, Bool.and_false, Bool.false_and, Nat.reduceMul, Nat.reduceAdd, Nat.reduceLT, Nat.reduceLeDiff, Nat.reducePow, Nat.reduceEqDiff, Nat.mul_one, Nat.one_mul, Nat.zero_add, Nat.add_zero, not_false_eq_true, true_and, and_true, and_self, true_or, or_true, false_or, or_false, ↓reduceIte, reduceCtorEq, gt_iff_lt, ge_iff_le, Option.some.injEq, Nat.lt_add_one, Nat.zero_lt_one, Int.toNat_natCast, decide_true, decide_false, Bool.not_true, Bool.not_false, Bool.not_eq_true, Bool.true_eq_false, not_true_eq_false, beq_iff_eq, bne_iff_ne, Int.natCast_eq_zero, bytesOf_length, x_cond, x_drawn, p_guard, o_guard, ile_true, ilt_true, ile_false, ilt_false, int_eq, int_ne, int_beq, int_bne, int_beq', int_bne', Try.ntmps14]
  refine wpLoop_ind (α := Nat)
    (fun i => ⟨[(0, .pure m (.sl (bytesOf bs))), (3, .pure true (.str (hexs (bs.take i)))), (4, .pure true (.int .i64 i))], []⟩)
    (fun i => i ≤ bs.length) (fun i => bs.length - i) ?_ 0 (by simp) rfl
  rintro i hi
  by_cases hlt : i < bs.length
  · have hs : bs[i]? = some bs[i] := List.getElem?_eq_getElem hlt
    have htake : bs.take i ++ [bs[i]] = bs.take (i + 1) := List.take_append_getElem hlt
    have hhex := hexs_snoc (bs.take i) bs[i]
    rw [htake] at hhex
    have hlen := hexs_len (bs.take i)
    have hlen' : (bs.take i).length ≤ 100000 := by rw [List.length_take]; omega
    have hc := bs[i].toNat_lt
    have hc1 : ((bs[i].toNat / 16 : Nat) : Int) + 1 = ((bs[i].toNat / 16 + 1 : Nat) : Int) := by omega
    have hc2 : ((bs[i].toNat % 16 : Nat) : Int) + 1 = ((bs[i].toNat % 16 + 1 : Nat) : Int) := by omega
    have h1 := signs_cut' (bs[i].toNat / 16) (by omega)
    have h2 := signs_cut' (bs[i].toNat % 16) (by omega)
    have hm1 : (((hexs (bs.take i)).length + 1 : Nat) : Int) ≤ maxStr := by unfold maxStr; omega
    have hm2 : (((hexs (bs.take i)).length + 1 + 1 : Nat) : Int) ≤ maxStr := by unfold maxStr; omega
    simp (maxSteps := 200000) -dsimp -implicitDefEqProofs (disch := omega) only [go_sem, wrap_u8, wrap_u16, wrap_u32, wrap_u64, wrap_i32, wrap_i64, List.length_nil, List.length_cons, List.length_append, List.map_cons, List.map_nil, List.replicate, List.set, List.getElem?_cons_zero, List.getElem?_cons_succ, List.take_zero, List.drop_zero, List.take_succ_cons, List.nil_append, List.cons_append, decide_eq_true_eq, Option.getD_some, Option.isNone_none, Option.isSome_some, Bool.false_eq_true, Bool.true_and, Bool.and_true, Bool.or_true, Bool.true_or, Bool.false_or, Bool.or_false, Bool.and_self, Bool.and_false, Bool.false_and, Nat.reduceMul, Nat.reduceAdd, Nat.reduceLT, Nat.reduceLeDiff, Nat.reducePow, Nat.reduceEqDiff, Nat.mul_one, Nat.one_mul, Nat.zero_add, Nat.add_zero, not_false_eq_true, true_and, and_true, and_self, true_or, or_true, false_or, or_false, ↓reduceIte, reduceCtorEq, gt_iff_lt, ge_iff_le, Option.some.injEq, Nat.lt_add_one, Nat.zero_lt_one, Int.toNat_natCast, decide_true, decide_false, Bool.not_true, Bool.not_false, Bool.not_eq_true, Bool.true_eq_false, not_true_eq_false, beq_iff_eq, bne_iff_ne, Int.natCast_eq_zero, bytesOf_length, x_cond, x_drawn, p_guard, o_guard, ile_true, ilt_true, ile_false, ilt_false, int_eq, int_ne, int_beq, int_bne, int_beq', int_bne', Try.ntmps14, bytesOf_get, hs, hc1, hc2, h1, h2, hm1, hm2, List.append_assoc]
    refine ⟨rfl, again_mk ⟨i + 1, by show i + 1 ≤ _; omega, by show _ - (i + 1) < _ - i; omega, ?_⟩⟩
    simp only [hhex]
    rfl
  · have he : bs.take i = bs := List.take_of_length_le (by omega)
    simp (maxSteps := 200000) -dsimp -implicitDefEqProofs (disch := omega) only [go_sem, wrap_u8, wrap_u16, wrap_u32, wrap_u64, wrap_i32, wrap_i64, List.length_nil, List.length_cons, List.length_append, List.map_cons, List.map_nil, List.replicate, List.set, List.getElem?_cons_zero, List.getElem?_cons_succ, List.take_zero, List.drop_zero, List.take_succ_cons, List.nil_append, List.cons_append, decide_eq_true_eq, Option.getD_some, Option.isNone_none, Option.isSome_some, Bool.false_eq_true, Bool.true_and, Bool.and_true, Bool.or_true, Bool.true_or, Bool.false_or, Bool.or_false, Bool.and_self, Bool.and_false, Bool.false_and, Nat.reduceMul, Nat.reduceAdd, Nat.reduceLT, Nat.reduceLeDiff, Nat.reducePow, Nat.reduceEqDiff, Nat.mul_one, Nat.one_mul, Nat.zero_add, Nat.add_zero, not_false_eq_true, true_and, and_true, and_self, true_or, or_true, false_or, or_false, ↓reduceIte, reduceCtorEq, gt_iff_lt, ge_iff_le, Option.some.injEq, Nat.lt_add_one, Nat.zero_lt_one, Int.toNat_natCast, decide_true, decide_false, Bool.not_true, Bool.not_false, Bool.not_eq_true, Bool.true_eq_false, not_true_eq_false, beq_iff_eq, bne_iff_ne, Int.natCast_eq_zero, bytesOf_length, x_cond, x_drawn, p_guard, o_guard, ile_true, ilt_true, ile_false, ilt_false, int_eq, int_ne, int_beq, int_bne, int_beq', int_bne', Try.ntmps14]
    exact end_str rfl (by rw [he])
end Go.Proofs.Ytpcocbgicckcgaa
