/- YtpcocbgicckcgaaN: bytes are read. No claim. -/
import Derived.Test.YtpcocbgicckcgaaM
set_option linter.unusedVariables false
set_option linter.unusedSimpArgs false
set_option maxRecDepth 100000
namespace Go.Proofs.Ytpcocbgicckcgaa
open Go Go.Proofs.Ytpcocbgicckcgaa.V

/-- The bytes whose digits a text has, as far as it goes. -/
def decO : List UInt8 → List UInt8
  | [] => []
  | [a] => [UInt8.ofNat (16 * dig a)]
  | a :: b :: r => UInt8.ofNat (16 * dig a + dig b) :: decO r
def goodB (s : List UInt8) : Prop := s.length % 2 = 0 ∧ ∀ c ∈ s, dig c < 16
open Classical in
noncomputable def readB (s : List UInt8) : Option (List UInt8) := if goodB s then some (decO s) else none
theorem readB_none {s : List UInt8} (h : ¬ goodB s) : readB s = none := if_neg h
theorem readB_some {s : List UInt8} (h : goodB s) : readB s = some (decO s) := if_pos h

theorem decO_even : ∀ (k : Nat) (t u : List UInt8), t.length = 2 * k → decO (t ++ u) = decO t ++ decO u := by
  intro k
  induction k with
  | zero =>
    intro t u h
    have : t = [] := List.length_eq_zero_iff.1 (by omega)
    subst this
    rfl
  | succ k ih =>
    intro t u h
    match t, h with
    | a :: b :: r, h =>
      simp only [List.length_cons] at h
      show _ :: decO (r ++ u) = _ :: (decO r ++ decO u)
      rw [ih r u (by omega)]
theorem decO_len : ∀ (k : Nat) (s : List UInt8), s.length ≤ k → (decO s).length = (s.length + 1) / 2 := by
  intro k
  induction k using Nat.strongRecOn with
  | _ k ih =>
    intro s h
    match s, h with
    | [], h => rfl
    | [a], h => simp [decO]
    | a :: b :: r, h =>
      simp only [List.length_cons] at h
      show (decO r).length + 1 = (r.length + 1 + 1 + 1) / 2
      rw [ih (k - 1) (by omega) r (by omega)]
      omega

set_option maxHeartbeats 4000000 in
theorem readBytes_any (s : List UInt8) (hl : s.length ≤ 1000000) (m : Bool) : ∃ z, (z = 1 ∨ (readB s).getD [] = []) ∧
    Runs Try.prog env 18 [.pure m (.str s)] [] (.tuple [.row 0 ((readB s).getD []).length, .pure true (.bool (readB s).isSome)]) [(0, .row true z 0 (bytesOf ((readB s).getD [])))] := by
  have hno : ¬ goodB s → (if (readB s).getD [] = [] then 0 else 1) = 0 := fun h => by rw [readB_none h]; rfl
  have hyes : goodB s → ∀ z, (z = if s.length = 0 then 0 else 1) → (if (readB s).getD [] = [] then 0 else 1) = z := fun h z hz => by
    rw [readB_some h, hz]
    match s with
    | [] => rfl
    | [c] => simp [decO]
    | a :: b :: r => simp [decO]
  refine ⟨if (readB s).getD [] = [] then 0 else 1, by split <;> simp_all, ?_⟩
  generalize (if (readB s).getD [] = [] then 0 else 1) = Z at hno hyes
  refine Runs.of Try.func18 rfl (by simp [Try.ntmps18]) ?_
  simp (maxSteps := 200000) -dsimp -implicitDefEqProofs (disch := omega) only [go_sem, wrap_u8, wrap_u16, wrap_u32, wrap_u64, wrap_i32, wrap_i64, List.length_nil, List.length_cons, List.length_append, List.map_cons, List.map_nil, List.replicate, List.set, List.getElem?_cons_zero, List.getElem?_cons_succ, List.take_zero, List.drop_zero, List.take_succ_cons, List.nil_append, List.cons_append, decide_eq_true_eq, Option.getD_some, Option.isNone_none, Option.isSome_some, Bool.false_eq_true, Bool.true_and, Bool.and_true, Bool.or_true, Bool.true_or, Bool.false_or, Bool.or_false, Bool.and_self, Bool.and_false, Bool.false_and, Nat.reduceMul, Nat.reduceAdd, Nat.reduceLT, Nat.reduceLeDiff, Nat.reducePow, Nat.reduceEqDiff, Nat.mul_one, Nat.one_mul, Nat.zero_add, Nat.add_zero, not_false_eq_true, true_and, and_true, and_self, true_or, or_true, false_or, or_false, ↓reduceIte, reduceCtorEq, gt_iff_lt, ge_iff_le, Option.some.injEq, Nat.lt_add_one, Nat.zero_lt_one, Int.toNat_natCast, decide_true, decide_false, Bool.not_true, Bool.not_false, Bool.not_eq_true, Bool.true_eq_false, not_true_eq_false, beq_iff_eq, bne_iff_ne, Int.natCast_eq_zero, bytesOf_length, x_cond, x_drawn, p_guard, o_guard, ile_true, ilt_true, ile_false, ilt_false, int_eq, int_ne, int_beq, int_bne, int_beq', int_bne', move_nil, Try.ntmps18]
  refine wpLoop_ind (α := Nat × Nat × Nat)
    (fun a => ⟨[(0, .pure m (.str s)), (4, .row 672 (decO (s.take a.1)).length), (9, .iter 673)], [(672, .row true a.2.2 a.2.1 (bytesOf (decO (s.take a.1)))), (673, .iter s a.1)]⟩)
    (fun a => a.1 ≤ s.length ∧ (a.1 % 2 = 1 → a.2.1 + 1 = (decO (s.take a.1)).length) ∧ (a.2.2 = if a.1 = 0 then 0 else 1) ∧ (∀ c ∈ s.take a.1, dig c < 16)) (fun a => s.length - a.1) ?_ (0, 0, 0) ⟨by simp, by simp, rfl, by simp⟩ rfl
  rintro ⟨pos, lim, z⟩ ⟨hp, hlim, hz, hds⟩
  simp only at hp hlim hz hds
  by_cases hlt : pos < s.length
  · have htake : s.take pos ++ [s[pos]] = s.take (pos + 1) := List.take_append_getElem hlt
    have hlen := decO_len _ (s.take pos) (Nat.le_refl _)
    rw [List.length_take, Nat.min_eq_left (by omega)] at hlen
    by_cases hd : dig s[pos] < 16
    · have hc : s[pos].toNat < 128 := by
        rcases Nat.lt_or_ge s[pos].toNat 128 with h | h
        · exact h
        · have := dig_high h; omega
      have hdec := dec_low hlt hc
      have hdig := digitOf_dig s[pos]
      rw [if_pos hd] at hdig
      have hds' : ∀ c ∈ s.take (pos + 1), dig c < 16 := by
        rw [← htake]
        intro c hc
        rw [List.mem_append, List.mem_singleton] at hc
        rcases hc with hc | rfl
        · exact hds c hc
        · exact hd
      by_cases he : pos % 2 = 0
      · have happ : decO (s.take (pos + 1)) = decO (s.take pos) ++ [UInt8.ofNat (16 * dig s[pos])] := by
          rw [← htake, decO_even (pos / 2) _ _ (by rw [List.length_take]; omega)]
          rfl
        have hb1 : ((dig s[pos] : Nat) : Int) * 16 = ((UInt8.ofNat (16 * dig s[pos])).toNat : Int) := by
          rw [UInt8.toNat_ofNat_of_lt' (by show _ < 256; omega)]; omega
        have hb2 := (UInt8.ofNat (16 * dig s[pos])).toNat_lt
        by_cases hp0 : pos = 0
        · rw [if_pos hp0] at hz
          subst hz
          simp (maxSteps := 200000) -dsimp -implicitDefEqProofs (disch := omega) only [go_sem, wrap_u8, wrap_u16, wrap_u32, wrap_u64, wrap_i32, wrap_i64, List.length_nil, List.length_cons, List.length_append, List.map_cons, List.map_nil, List.replicate, List.set, List.getElem?_cons_zero, List.getElem?_cons_succ, List.take_zero, List.drop_zero, List.take_succ_cons, List.nil_append, List.cons_append, decide_eq_true_eq, Option.getD_some, Option.isNone_none, Option.isSome_some, Bool.false_eq_true, Bool.true_and, Bool.and_true, Bool.or_true, Bool.true_or, Bool.false_or, Bool.or_false, Bool.and_self, Bool.and_false, Bool.false_and, Nat.reduceMul, Nat.reduceAdd, Nat.reduceLT, Nat.reduceLeDiff, Nat.reducePow, Nat.reduceEqDiff, Nat.mul_one, Nat.one_mul, Nat.zero_add, Nat.add_zero, not_false_eq_true, true_and, and_true, and_self, true_or, or_true, false_or, or_false, ↓reduceIte, reduceCtorEq, gt_iff_lt, ge_iff_le, Option.some.injEq, Nat.lt_add_one, Nat.zero_lt_one, Int.toNat_natCast, decide_true, decide_false, Bool.not_true, Bool.not_false, Bool.not_eq_true, Bool.true_eq_false, not_true_eq_false, beq_iff_eq, bne_iff_ne, Int.natCast_eq_zero, bytesOf_length, x_cond, x_drawn, p_guard, o_guard, ile_true, ilt_true, ile_false, ilt_false, int_eq, int_ne, int_beq, int_bne, int_beq', int_bne', move_nil, Try.ntmps18, hdec]
          refine wpAct_call0 (digit_any s[pos].toNat true (by omega) (by omega)) rfl rfl rfl rfl rfl rfl rfl rfl ?_
          rw [hdig]
          simp (maxSteps := 200000) -dsimp -implicitDefEqProofs (disch := omega) only [go_sem, wrap_u8, wrap_u16, wrap_u32, wrap_u64, wrap_i32, wrap_i64, List.length_nil, List.length_cons, List.length_append, List.map_cons, List.map_nil, List.replicate, List.set, List.getElem?_cons_zero, List.getElem?_cons_succ, List.take_zero, List.drop_zero, List.take_succ_cons, List.nil_append, List.cons_append, decide_eq_true_eq, Option.getD_some, Option.isNone_none, Option.isSome_some, Bool.false_eq_true, Bool.true_and, Bool.and_true, Bool.or_true, Bool.true_or, Bool.false_or, Bool.or_false, Bool.and_self, Bool.and_false, Bool.false_and, Nat.reduceMul, Nat.reduceAdd, Nat.reduceLT, Nat.reduceLeDiff, Nat.reducePow, Nat.reduceEqDiff, Nat.mul_one, Nat.one_mul, Nat.zero_add, Nat.add_zero, not_false_eq_true, true_and, and_true, and_self, true_or, or_true, false_or, or_false, ↓reduceIte, reduceCtorEq, gt_iff_lt, ge_iff_le, Option.some.injEq, Nat.lt_add_one, Nat.zero_lt_one, Int.toNat_natCast, decide_true, decide_false, Bool.not_true, Bool.not_false, Bool.not_eq_true, Bool.true_eq_false, not_true_eq_false, beq_iff_eq, bne_iff_ne, Int.natCast_eq_zero, bytesOf_length, x_cond, x_drawn, p_guard, o_guard, ile_true, ilt_true, ile_false, ilt_false, int_eq, int_ne, int_beq, int_bne, int_beq', int_bne', hb1]
          refine again_mk ⟨(pos + 1, (decO (s.take pos)).length, 1), ⟨by show pos + 1 ≤ _; omega, fun _ => by rw [happ]; simp, by simp, hds'⟩, by show _ - (pos + 1) < _ - pos; omega, ?_⟩
          simp only [happ, List.length_append, List.length_cons, List.length_nil]
          rfl
        · rw [if_neg hp0] at hz
          subst hz
          simp (maxSteps := 200000) -dsimp -implicitDefEqProofs (disch := omega) only [go_sem, wrap_u8, wrap_u16, wrap_u32, wrap_u64, wrap_i32, wrap_i64, List.length_nil, List.length_cons, List.length_append, List.map_cons, List.map_nil, List.replicate, List.set, List.getElem?_cons_zero, List.getElem?_cons_succ, List.take_zero, List.drop_zero, List.take_succ_cons, List.nil_append, List.cons_append, decide_eq_true_eq, Option.getD_some, Option.isNone_none, Option.isSome_some, Bool.false_eq_true, Bool.true_and, Bool.and_true, Bool.or_true, Bool.true_or, Bool.false_or, Bool.or_false, Bool.and_self, Bool.and_false, Bool.false_and, Nat.reduceMul, Nat.reduceAdd, Nat.reduceLT, Nat.reduceLeDiff, Nat.reducePow, Nat.reduceEqDiff, Nat.mul_one, Nat.one_mul, Nat.zero_add, Nat.add_zero, not_false_eq_true, true_and, and_true, and_self, true_or, or_true, false_or, or_false, ↓reduceIte, reduceCtorEq, gt_iff_lt, ge_iff_le, Option.some.injEq, Nat.lt_add_one, Nat.zero_lt_one, Int.toNat_natCast, decide_true, decide_false, Bool.not_true, Bool.not_false, Bool.not_eq_true, Bool.true_eq_false, not_true_eq_false, beq_iff_eq, bne_iff_ne, Int.natCast_eq_zero, bytesOf_length, x_cond, x_drawn, p_guard, o_guard, ile_true, ilt_true, ile_false, ilt_false, int_eq, int_ne, int_beq, int_bne, int_beq', int_bne', move_nil, Try.ntmps18, hdec]
          refine wpAct_call0 (digit_any s[pos].toNat true (by omega) (by omega)) rfl rfl rfl rfl rfl rfl rfl rfl ?_
          rw [hdig]
          simp (maxSteps := 200000) -dsimp -implicitDefEqProofs (disch := omega) only [go_sem, wrap_u8, wrap_u16, wrap_u32, wrap_u64, wrap_i32, wrap_i64, List.length_nil, List.length_cons, List.length_append, List.map_cons, List.map_nil, List.replicate, List.set, List.getElem?_cons_zero, List.getElem?_cons_succ, List.take_zero, List.drop_zero, List.take_succ_cons, List.nil_append, List.cons_append, decide_eq_true_eq, Option.getD_some, Option.isNone_none, Option.isSome_some, Bool.false_eq_true, Bool.true_and, Bool.and_true, Bool.or_true, Bool.true_or, Bool.false_or, Bool.or_false, Bool.and_self, Bool.and_false, Bool.false_and, Nat.reduceMul, Nat.reduceAdd, Nat.reduceLT, Nat.reduceLeDiff, Nat.reducePow, Nat.reduceEqDiff, Nat.mul_one, Nat.one_mul, Nat.zero_add, Nat.add_zero, not_false_eq_true, true_and, and_true, and_self, true_or, or_true, false_or, or_false, ↓reduceIte, reduceCtorEq, gt_iff_lt, ge_iff_le, Option.some.injEq, Nat.lt_add_one, Nat.zero_lt_one, Int.toNat_natCast, decide_true, decide_false, Bool.not_true, Bool.not_false, Bool.not_eq_true, Bool.true_eq_false, not_true_eq_false, beq_iff_eq, bne_iff_ne, Int.natCast_eq_zero, bytesOf_length, x_cond, x_drawn, p_guard, o_guard, ile_true, ilt_true, ile_false, ilt_false, int_eq, int_ne, int_beq, int_bne, int_beq', int_bne', hb1]
          refine again_mk ⟨(pos + 1, (decO (s.take pos)).length, 1), ⟨by show pos + 1 ≤ _; omega, fun _ => by rw [happ]; simp, by simp, hds'⟩, by show _ - (pos + 1) < _ - pos; omega, ?_⟩
          simp only [happ, List.length_append, List.length_cons, List.length_nil]
          rfl
      · rw [if_neg (by omega)] at hz
        subst hz
        obtain ⟨k, rfl⟩ : ∃ k, pos = 2 * k + 1 := ⟨pos / 2, by omega⟩
        have h2k : 2 * k < s.length := by omega
        have htake0 : s.take (2 * k) ++ [s[2 * k]] = s.take (2 * k + 1) := List.take_append_getElem h2k
        have hx : dig s[2 * k] < 16 := hds _ (by rw [← htake0]; exact List.mem_append_right _ (List.mem_singleton.2 rfl))
        have htl : (s.take (2 * k)).length = 2 * k := by rw [List.length_take]; omega
        have hout : decO (s.take (2 * k + 1)) = decO (s.take (2 * k)) ++ [UInt8.ofNat (16 * dig s[2 * k])] := by
          rw [← htake0, decO_even k _ _ htl]
          rfl
        have hnew : decO (s.take (2 * k + 1 + 1)) = decO (s.take (2 * k)) ++ [UInt8.ofNat (16 * dig s[2 * k] + dig s[2 * k + 1])] := by
          rw [← htake, ← htake0, List.append_assoc, decO_even k _ _ htl]
          rfl
        have hlim' := hlim (by omega)
        rw [hout] at hlim'
        simp only [List.length_append, List.length_cons, List.length_nil] at hlim'
        have hvw : (((UInt8.ofNat (16 * dig s[2 * k])).toNat : Nat) : Int) + ((dig s[2 * k + 1] : Nat) : Int) = ((UInt8.ofNat (16 * dig s[2 * k] + dig s[2 * k + 1])).toNat : Int) := by
          rw [UInt8.toNat_ofNat_of_lt' (by show _ < 256; omega), UInt8.toNat_ofNat_of_lt' (by show _ < 256; omega)]; omega
        have hw := (UInt8.ofNat (16 * dig s[2 * k] + dig s[2 * k + 1])).toNat_lt
        generalize UInt8.ofNat (16 * dig s[2 * k]) = v at *
        generalize UInt8.ofNat (16 * dig s[2 * k] + dig s[2 * k + 1]) = w at *
        generalize decO (s.take (2 * k)) = L at *
        have hL : L.length ≤ 1000000 := by
          rw [hout, List.length_append] at hlen
          omega
        have hl1 : ((L.length + 1 : Nat) : Int) - 1 = (L.length : Int) := by omega
        have hget : (bytesOf (L ++ [v]))[L.length]? = some (.int .u8 v.toNat) := by simp [bytesOf]
        have hset : (bytesOf (L ++ [v])).set L.length (.int .u8 w.toNat) = bytesOf (L ++ [w]) := by simp [bytesOf]
        simp (maxSteps := 200000) -dsimp -implicitDefEqProofs (disch := omega) only [go_sem, wrap_u8, wrap_u16, wrap_u32, wrap_u64, wrap_i32, wrap_i64, List.length_nil, List.length_cons, List.length_append, List.map_cons, List.map_nil, List.replicate, List.set, List.getElem?_cons_zero, List.getElem?_cons_succ, List.take_zero, List.drop_zero, List.take_succ_cons, List.nil_append, List.cons_append, decide_eq_true_eq, Option.getD_some, Option.isNone_none, Option.isSome_some, Bool.false_eq_true, Bool.true_and, Bool.and_true, Bool.or_true, Bool.true_or, Bool.false_or, Bool.or_false, Bool.and_self, Bool.and_false, Bool.false_and, Nat.reduceMul, Nat.reduceAdd, Nat.reduceLT, Nat.reduceLeDiff, Nat.reducePow, Nat.reduceEqDiff, Nat.mul_one, Nat.one_mul, Nat.zero_add, Nat.add_zero, not_false_eq_true, true_and, and_true, and_self, true_or, or_true, false_or, or_false, ↓reduceIte, reduceCtorEq, gt_iff_lt, ge_iff_le, Option.some.injEq, Nat.lt_add_one, Nat.zero_lt_one, Int.toNat_natCast, decide_true, decide_false, Bool.not_true, Bool.not_false, Bool.not_eq_true, Bool.true_eq_false, not_true_eq_false, beq_iff_eq, bne_iff_ne, Int.natCast_eq_zero, bytesOf_length, x_cond, x_drawn, p_guard, o_guard, ile_true, ilt_true, ile_false, ilt_false, int_eq, int_ne, int_beq, int_bne, int_beq', int_bne', move_nil, Try.ntmps18, hdec, hout]
        refine wpAct_call0 (digit_any s[2 * k + 1].toNat true (by omega) (by omega)) rfl rfl rfl rfl rfl rfl rfl rfl ?_
        rw [hdig]
        simp (maxSteps := 200000) -dsimp -implicitDefEqProofs (disch := omega) only [go_sem, wrap_u8, wrap_u16, wrap_u32, wrap_u64, wrap_i32, wrap_i64, List.length_nil, List.length_cons, List.length_append, List.map_cons, List.map_nil, List.replicate, List.set, List.getElem?_cons_zero, List.getElem?_cons_succ, List.take_zero, List.drop_zero, List.take_succ_cons, List.nil_append, List.cons_append, decide_eq_true_eq, Option.getD_some, Option.isNone_none, Option.isSome_some, Bool.false_eq_true, Bool.true_and, Bool.and_true, Bool.or_true, Bool.true_or, Bool.false_or, Bool.or_false, Bool.and_self, Bool.and_false, Bool.false_and, Nat.reduceMul, Nat.reduceAdd, Nat.reduceLT, Nat.reduceLeDiff, Nat.reducePow, Nat.reduceEqDiff, Nat.mul_one, Nat.one_mul, Nat.zero_add, Nat.add_zero, not_false_eq_true, true_and, and_true, and_self, true_or, or_true, false_or, or_false, ↓reduceIte, reduceCtorEq, gt_iff_lt, ge_iff_le, Option.some.injEq, Nat.lt_add_one, Nat.zero_lt_one, Int.toNat_natCast, decide_true, decide_false, Bool.not_true, Bool.not_false, Bool.not_eq_true, Bool.true_eq_false, not_true_eq_false, beq_iff_eq, bne_iff_ne, Int.natCast_eq_zero, bytesOf_length, x_cond, x_drawn, p_guard, o_guard, ile_true, ilt_true, ile_false, ilt_false, int_eq, int_ne, int_beq, int_bne, int_beq', int_bne', hl1, hget, hset, hvw, putL]
        refine again_mk ⟨(2 * k + 1 + 1, lim, 1), ⟨by show 2 * k + 1 + 1 ≤ _; omega, fun h => absurd h (by show ¬ (2 * k + 1 + 1) % 2 = 1; omega), by simp, hds'⟩, by show _ - (2 * k + 1 + 1) < _ - (2 * k + 1); omega, ?_⟩
        simp only [hnew, List.length_append, List.length_cons, List.length_nil]
        rfl
    · have hg : ¬ goodB s := fun h => hd (h.2 _ (List.getElem_mem _))
      rw [readB_none hg, hno hg]
      by_cases hc : s[pos].toNat < 128
      · have hdec := dec_low hlt hc
        have hdig := digitOf_dig s[pos]
        rw [if_neg hd] at hdig
        simp (maxSteps := 200000) -dsimp -implicitDefEqProofs (disch := omega) only [go_sem, wrap_u8, wrap_u16, wrap_u32, wrap_u64, wrap_i32, wrap_i64, List.length_nil, List.length_cons, List.length_append, List.map_cons, List.map_nil, List.replicate, List.set, List.getElem?_cons_zero, List.getElem?_cons_succ, List.take_zero, List.drop_zero, List.take_succ_cons, List.nil_append, List.cons_append, decide_eq_true_eq, Option.getD_some, Option.isNone_none, Option.isSome_some, Bool.false_eq_true, Bool.true_and, Bool.and_true, Bool.or_true, Bool.true_or, Bool.false_or, Bool.or_false, Bool.and_self, Bool.and_false, Bool.false_and, Nat.reduceMul, Nat.reduceAdd, Nat.reduceLT, Nat.reduceLeDiff, Nat.reducePow, Nat.reduceEqDiff, Nat.mul_one, Nat.one_mul, Nat.zero_add, Nat.add_zero, not_false_eq_true, true_and, and_true, and_self, true_or, or_true, false_or, or_false, ↓reduceIte, reduceCtorEq, gt_iff_lt, ge_iff_le, Option.some.injEq, Nat.lt_add_one, Nat.zero_lt_one, Int.toNat_natCast, decide_true, decide_false, Bool.not_true, Bool.not_false, Bool.not_eq_true, Bool.true_eq_false, not_true_eq_false, beq_iff_eq, bne_iff_ne, Int.natCast_eq_zero, bytesOf_length, x_cond, x_drawn, p_guard, o_guard, ile_true, ilt_true, ile_false, ilt_false, int_eq, int_ne, int_beq, int_bne, int_beq', int_bne', move_nil, Try.ntmps18, hdec]
        refine wpAct_call0 (digit_any s[pos].toNat true (by omega) (by omega)) rfl rfl rfl rfl rfl rfl rfl rfl ?_
        rw [hdig]
        simp (maxSteps := 200000) -dsimp -implicitDefEqProofs (disch := omega) only [go_sem, wrap_u8, wrap_u16, wrap_u32, wrap_u64, wrap_i32, wrap_i64, List.length_nil, List.length_cons, List.length_append, List.map_cons, List.map_nil, List.replicate, List.set, List.getElem?_cons_zero, List.getElem?_cons_succ, List.take_zero, List.drop_zero, List.take_succ_cons, List.nil_append, List.cons_append, decide_eq_true_eq, Option.getD_some, Option.isNone_none, Option.isSome_some, Bool.false_eq_true, Bool.true_and, Bool.and_true, Bool.or_true, Bool.true_or, Bool.false_or, Bool.or_false, Bool.and_self, Bool.and_false, Bool.false_and, Nat.reduceMul, Nat.reduceAdd, Nat.reduceLT, Nat.reduceLeDiff, Nat.reducePow, Nat.reduceEqDiff, Nat.mul_one, Nat.one_mul, Nat.zero_add, Nat.add_zero, not_false_eq_true, true_and, and_true, and_self, true_or, or_true, false_or, or_false, ↓reduceIte, reduceCtorEq, gt_iff_lt, ge_iff_le, Option.some.injEq, Nat.lt_add_one, Nat.zero_lt_one, Int.toNat_natCast, decide_true, decide_false, Bool.not_true, Bool.not_false, Bool.not_eq_true, Bool.true_eq_false, not_true_eq_false, beq_iff_eq, bne_iff_ne, Int.natCast_eq_zero, bytesOf_length, x_cond, x_drawn, p_guard, o_guard, ile_true, ilt_true, ile_false, ilt_false, int_eq, int_ne, int_beq, int_bne, int_beq', int_bne', move_nil]
        exact end_row2 rfl rfl rfl rfl rfl rfl rfl
      · obtain ⟨hdec, hdec'⟩ := dec_high hlt (by omega)
        simp (maxSteps := 200000) -dsimp -implicitDefEqProofs (disch := omega) only [go_sem, wrap_u8, wrap_u16, wrap_u32, wrap_u64, wrap_i32, wrap_i64, List.length_nil, List.length_cons, List.length_append, List.map_cons, List.map_nil, List.replicate, List.set, List.getElem?_cons_zero, List.getElem?_cons_succ, List.take_zero, List.drop_zero, List.take_succ_cons, List.nil_append, List.cons_append, decide_eq_true_eq, Option.getD_some, Option.isNone_none, Option.isSome_some, Bool.false_eq_true, Bool.true_and, Bool.and_true, Bool.or_true, Bool.true_or, Bool.false_or, Bool.or_false, Bool.and_self, Bool.and_false, Bool.false_and, Nat.reduceMul, Nat.reduceAdd, Nat.reduceLT, Nat.reduceLeDiff, Nat.reducePow, Nat.reduceEqDiff, Nat.mul_one, Nat.one_mul, Nat.zero_add, Nat.add_zero, not_false_eq_true, true_and, and_true, and_self, true_or, or_true, false_or, or_false, ↓reduceIte, reduceCtorEq, gt_iff_lt, ge_iff_le, Option.some.injEq, Nat.lt_add_one, Nat.zero_lt_one, Int.toNat_natCast, decide_true, decide_false, Bool.not_true, Bool.not_false, Bool.not_eq_true, Bool.true_eq_false, not_true_eq_false, beq_iff_eq, bne_iff_ne, Int.natCast_eq_zero, bytesOf_length, x_cond, x_drawn, p_guard, o_guard, ile_true, ilt_true, ile_false, ilt_false, int_eq, int_ne, int_beq, int_bne, int_beq', int_bne', move_nil, Try.ntmps18]
        refine wpAct_call0 (digit_any (decd s pos).1 true (by omega) (by omega)) rfl rfl rfl rfl rfl rfl rfl rfl ?_
        rw [digitOf_high (by omega)]
        simp (maxSteps := 200000) -dsimp -implicitDefEqProofs (disch := omega) only [go_sem, wrap_u8, wrap_u16, wrap_u32, wrap_u64, wrap_i32, wrap_i64, List.length_nil, List.length_cons, List.length_append, List.map_cons, List.map_nil, List.replicate, List.set, List.getElem?_cons_zero, List.getElem?_cons_succ, List.take_zero, List.drop_zero, List.take_succ_cons, List.nil_append, List.cons_append, decide_eq_true_eq, Option.getD_some, Option.isNone_none, Option.isSome_some, Bool.false_eq_true, Bool.true_and, Bool.and_true, Bool.or_true, Bool.true_or, Bool.false_or, Bool.or_false, Bool.and_self, Bool.and_false, Bool.false_and, Nat.reduceMul, Nat.reduceAdd, Nat.reduceLT, Nat.reduceLeDiff, Nat.reducePow, Nat.reduceEqDiff, Nat.mul_one, Nat.one_mul, Nat.zero_add, Nat.add_zero, not_false_eq_true, true_and, and_true, and_self, true_or, or_true, false_or, or_false, ↓reduceIte, reduceCtorEq, gt_iff_lt, ge_iff_le, Option.some.injEq, Nat.lt_add_one, Nat.zero_lt_one, Int.toNat_natCast, decide_true, decide_false, Bool.not_true, Bool.not_false, Bool.not_eq_true, Bool.true_eq_false, not_true_eq_false, beq_iff_eq, bne_iff_ne, Int.natCast_eq_zero, bytesOf_length, x_cond, x_drawn, p_guard, o_guard, ile_true, ilt_true, ile_false, ilt_false, int_eq, int_ne, int_beq, int_bne, int_beq', int_bne', move_nil]
        exact end_row2 rfl rfl rfl rfl rfl rfl rfl
  · have he : s.take pos = s := List.take_of_length_le (by omega)
    have hpos : pos = s.length := by omega
    rw [he] at hds
    by_cases h2 : s.length % 2 = 0
    · have hg : goodB s := ⟨h2, hds⟩
      rw [readB_some hg, hyes hg z (by rw [hz, hpos])]
      simp (maxSteps := 200000) -dsimp -implicitDefEqProofs (disch := omega) only [go_sem, wrap_u8, wrap_u16, wrap_u32, wrap_u64, wrap_i32, wrap_i64, List.length_nil, List.length_cons, List.length_append, List.map_cons, List.map_nil, List.replicate, List.set, List.getElem?_cons_zero, List.getElem?_cons_succ, List.take_zero, List.drop_zero, List.take_succ_cons, List.nil_append, List.cons_append, decide_eq_true_eq, Option.getD_some, Option.isNone_none, Option.isSome_some, Bool.false_eq_true, Bool.true_and, Bool.and_true, Bool.or_true, Bool.true_or, Bool.false_or, Bool.or_false, Bool.and_self, Bool.and_false, Bool.false_and, Nat.reduceMul, Nat.reduceAdd, Nat.reduceLT, Nat.reduceLeDiff, Nat.reducePow, Nat.reduceEqDiff, Nat.mul_one, Nat.one_mul, Nat.zero_add, Nat.add_zero, not_false_eq_true, true_and, and_true, and_self, true_or, or_true, false_or, or_false, ↓reduceIte, reduceCtorEq, gt_iff_lt, ge_iff_le, Option.some.injEq, Nat.lt_add_one, Nat.zero_lt_one, Int.toNat_natCast, decide_true, decide_false, Bool.not_true, Bool.not_false, Bool.not_eq_true, Bool.true_eq_false, not_true_eq_false, beq_iff_eq, bne_iff_ne, Int.natCast_eq_zero, bytesOf_length, x_cond, x_drawn, p_guard, o_guard, ile_true, ilt_true, ile_false, ilt_false, int_eq, int_ne, int_beq, int_bne, int_beq', int_bne', move_nil, Try.ntmps18, he, ne_eq]
      exact end_row2 rfl rfl rfl (by rw [bytesOf_length]) (allScalar_bytesOf _) rfl rfl
    · have hg : ¬ goodB s := fun h => h2 h.1
      rw [readB_none hg, hno hg]
      simp (maxSteps := 200000) -dsimp -implicitDefEqProofs (disch := omega) only [go_sem, wrap_u8, wrap_u16, wrap_u32, wrap_u64, wrap_i32, wrap_i64, List.length_nil, List.length_cons, List.length_append, List.map_cons, List.map_nil, List.replicate, List.set, List.getElem?_cons_zero, List.getElem?_cons_succ, List.take_zero, List.drop_zero, List.take_succ_cons, List.nil_append, List.cons_append, decide_eq_true_eq, Option.getD_some, Option.isNone_none, Option.isSome_some, Bool.false_eq_true, Bool.true_and, Bool.and_true, Bool.or_true, Bool.true_or, Bool.false_or, Bool.or_false, Bool.and_self, Bool.and_false, Bool.false_and, Nat.reduceMul, Nat.reduceAdd, Nat.reduceLT, Nat.reduceLeDiff, Nat.reducePow, Nat.reduceEqDiff, Nat.mul_one, Nat.one_mul, Nat.zero_add, Nat.add_zero, not_false_eq_true, true_and, and_true, and_self, true_or, or_true, false_or, or_false, ↓reduceIte, reduceCtorEq, gt_iff_lt, ge_iff_le, Option.some.injEq, Nat.lt_add_one, Nat.zero_lt_one, Int.toNat_natCast, decide_true, decide_false, Bool.not_true, Bool.not_false, Bool.not_eq_true, Bool.true_eq_false, not_true_eq_false, beq_iff_eq, bne_iff_ne, Int.natCast_eq_zero, bytesOf_length, x_cond, x_drawn, p_guard, o_guard, ile_true, ilt_true, ile_false, ilt_false, int_eq, int_ne, int_beq, int_bne, int_beq', int_bne', move_nil, Try.ntmps18, he, ne_eq]
      exact end_row2 rfl rfl rfl rfl rfl rfl rfl
end Go.Proofs.Ytpcocbgicckcgaa
