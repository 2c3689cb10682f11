/- YtpgklagjjimbhaaA: options, as plain data; bytes.Equal; whether options are alike. No claim. -/
import Derived.Test.YtpgklagjjimbhaaE
import Derived.Test.Ytpgklagjjimbhaa27
set_option linter.unusedVariables false
set_option linter.unusedSimpArgs false
set_option maxRecDepth 100000
namespace Go.Proofs.Ytpgklagjjimbhaa
open Go Go.Proofs.Ytpgklagjjimbhaa.V

theorem b_beq4 {E : Env} {m m' p q : Bool} : binV Try.prog E .eql 4 (.pure m (.bool p)) (.pure m' (.bool q)) = some (.bool (p == q)) := b_beql Try.underlying4
theorem b_bne4 {E : Env} {m m' p q : Bool} : binV Try.prog E .neq 4 (.pure m (.bool p)) (.pure m' (.bool q)) = some (.bool !(p == q)) := b_bneq Try.underlying4
attribute [go_sem] b_beq4 b_bne4
abbrev Opt := Int × List UInt8
def optV (o : Opt) : PV := .agg [.int .i64 o.1, .sl (bytesOf o.2)]
def optsV (l : List Opt) : List PV := l.map optV
theorem optsV_length (l : List Opt) : (optsV l).length = l.length := by simp [optsV]
attribute [go_sem] optsV_length
theorem optsV_get (l : List Opt) (i : Nat) : (optsV l)[i]? = (l[i]?).map optV := by simp [optsV]
theorem optsV_take (l : List Opt) (n : Nat) : (optsV l).take n = optsV (l.take n) := by simp [optsV]
theorem optsV_drop (l : List Opt) (n : Nat) : (optsV l).drop n = optsV (l.drop n) := by simp [optsV]
theorem optsV_one (o : Opt) : [optV o] = optsV [o] := rfl
theorem optsV_join (l k : List Opt) : optsV l ++ optsV k = optsV (l ++ k) := by simp [optsV]
theorem optsV_nil : optsV [] = [] := rfl
theorem allW_optsV (l : List Opt) : allW 2 (optsV l) = true := by
  induction l with
  | nil => rfl
  | cons o r ih =>
    show (decide ((optV o).cells.length = 2) && allW 2 (optsV r)) = true
    rw [ih]
    rfl
theorem optV_mk (t : Int) (d : List UInt8) : PV.agg [.int .i64 t, .sl (bytesOf d)] = optV (t, d) := rfl
theorem optV_cells (o : Opt) : (optV o).cells = [.int .i64 o.1, .sl (bytesOf o.2)] := rfl
theorem optV_agg (o : Opt) : (optV o).isAgg = true := rfl
theorem optV_norm (o : Opt) : norm (optV o) = optV o := rfl
theorem beq_same {α : Type} [BEq α] [LawfulBEq α] (s : α) : (s == s) = true := by simp
theorem optV_scalar (o : Opt) : (optV o).scalar = false := rfl
theorem bytesOf_nil' : bytesOf [] = [] := rfl
theorem nil_bytes : PV.sl [] = PV.sl (bytesOf []) := rfl

theorem equal_any (s t : List UInt8) (m m' : Bool) : Runs Try.prog env 87 [.pure m (.sl (bytesOf s)), .pure m' (.sl (bytesOf t))] [] (.pure true (.bool (s == t))) [] := by
  refine Runs.of Try.func87 rfl (by simp [Try.ntmps87]) ?_
  simp (maxSteps := 400000) -dsimp -implicitDefEqProofs (disch := first | exact TrueB.mk rfl | omega) only [go_sem, Nat.reduceMul, Nat.reduceAdd, Nat.reduceLT, Nat.reduceLeDiff, Nat.reducePow, Nat.reduceEqDiff, ↓reduceIte, reduceCtorEq, Int.reduceToNat, Try.ntmps87]
  exact end_bool rfl rfl

theorem beq_pair (a b : Opt) : (a == b) = (a.1 == b.1 && a.2 == b.2) := rfl
theorem beq_pair_ne {a b : Opt} (h : a.1 ≠ b.1) : (a == b) = false := by rw [beq_pair]; simp [h]
theorem beq_pair_eq {a b : Opt} (h : a.1 = b.1) : (a == b) = (a.2 == b.2) := by rw [beq_pair]; simp [h]

theorem one_any (a b : Opt) (m m' : Bool) : Runs Try.prog env 81 [.pure m (optV a), .pure m' (optV b)] [] (.pure true (.bool (a == b))) [] := by
  refine Runs.of Try.func81 rfl (by simp [Try.ntmps81]) ?_
  unfold optV
  simp (maxSteps := 400000) -dsimp -implicitDefEqProofs (disch := first | exact TrueB.mk rfl | omega) only [go_sem, Nat.reduceMul, Nat.reduceAdd, Nat.reduceLT, Nat.reduceLeDiff, Nat.reducePow, Nat.reduceEqDiff, ↓reduceIte, reduceCtorEq, Int.reduceToNat, Try.ntmps81, boxV, cellsOf]
  first | refine condK_dec (fun h => ?_) (fun h => ?_) | refine condK_ndec (fun h => ?_) (fun h => ?_) | refine condK_beq (fun h => ?_) (fun h => ?_) | refine condK_bne (fun h => ?_) (fun h => ?_) | refine condK_nbeq (fun h => ?_) (fun h => ?_) | refine guardK_dec (fun h => ?_) (fun h => ?_) | refine guardK_ndec (fun h => ?_) (fun h => ?_) | refine guardK_beq (fun h => ?_) (fun h => ?_) | refine guardK_bne (fun h => ?_) (fun h => ?_) | refine guardK_nbeq (fun h => ?_) (fun h => ?_) | refine condK_not (fun h => ?_) (fun h => ?_) | refine guardK_not (fun h => ?_) (fun h => ?_) | refine condK_bool (fun h => ?_) (fun h => ?_) | refine guardK_bool (fun h => ?_) (fun h => ?_) | done
  · simp (maxSteps := 400000) -dsimp -implicitDefEqProofs (disch := first | exact TrueB.mk rfl | omega) only [go_sem, Nat.reduceMul, Nat.reduceAdd, Nat.reduceLT, Nat.reduceLeDiff, Nat.reducePow, Nat.reduceEqDiff, ↓reduceIte, reduceCtorEq, Int.reduceToNat, boxV, cellsOf]
    exact end_bool rfl (beq_pair_eq h).symm
  · simp (maxSteps := 400000) -dsimp -implicitDefEqProofs (disch := first | exact TrueB.mk rfl | omega) only [go_sem, Nat.reduceMul, Nat.reduceAdd, Nat.reduceLT, Nat.reduceLeDiff, Nat.reducePow, Nat.reduceEqDiff, ↓reduceIte, reduceCtorEq, Int.reduceToNat]
    exact end_bool rfl (beq_pair_ne h).symm

theorem alike_any (a b : Opt) (m m' : Bool) : Runs Try.prog env 83 [.pure m (optV a), .pure m' (optV b)] [] (.pure true (.bool (a == b))) [] := by
  refine Runs.of Try.func83 rfl (by simp [Try.ntmps83]) ?_
  unfold optV
  simp (maxSteps := 400000) -dsimp -implicitDefEqProofs (disch := first | exact TrueB.mk rfl | omega) only [go_sem, Nat.reduceMul, Nat.reduceAdd, Nat.reduceLT, Nat.reduceLeDiff, Nat.reducePow, Nat.reduceEqDiff, ↓reduceIte, reduceCtorEq, Int.reduceToNat, Try.ntmps83, boxV, cellsOf]
  first | refine condK_dec (fun h => ?_) (fun h => ?_) | refine condK_ndec (fun h => ?_) (fun h => ?_) | refine condK_beq (fun h => ?_) (fun h => ?_) | refine condK_bne (fun h => ?_) (fun h => ?_) | refine condK_nbeq (fun h => ?_) (fun h => ?_) | refine guardK_dec (fun h => ?_) (fun h => ?_) | refine guardK_ndec (fun h => ?_) (fun h => ?_) | refine guardK_beq (fun h => ?_) (fun h => ?_) | refine guardK_bne (fun h => ?_) (fun h => ?_) | refine guardK_nbeq (fun h => ?_) (fun h => ?_) | refine condK_not (fun h => ?_) (fun h => ?_) | refine guardK_not (fun h => ?_) (fun h => ?_) | refine condK_bool (fun h => ?_) (fun h => ?_) | refine guardK_bool (fun h => ?_) (fun h => ?_) | done
  · simp (maxSteps := 400000) -dsimp -implicitDefEqProofs (disch := first | exact TrueB.mk rfl | omega) only [go_sem, Nat.reduceMul, Nat.reduceAdd, Nat.reduceLT, Nat.reduceLeDiff, Nat.reducePow, Nat.reduceEqDiff, ↓reduceIte, reduceCtorEq, Int.reduceToNat, boxV, cellsOf]
    first | refine wpAct_call0 (equal_any a.2 b.2 _ _) rfl rfl rfl rfl rfl rfl rfl rfl ?_ | done
    simp (maxSteps := 400000) -dsimp -implicitDefEqProofs (disch := first | exact TrueB.mk rfl | omega) only [go_sem, Nat.reduceMul, Nat.reduceAdd, Nat.reduceLT, Nat.reduceLeDiff, Nat.reducePow, Nat.reduceEqDiff, ↓reduceIte, reduceCtorEq, Int.reduceToNat]
    exact end_bool rfl (beq_pair_eq h).symm
  · simp (maxSteps := 400000) -dsimp -implicitDefEqProofs (disch := first | exact TrueB.mk rfl | omega) only [go_sem, Nat.reduceMul, Nat.reduceAdd, Nat.reduceLT, Nat.reduceLeDiff, Nat.reducePow, Nat.reduceEqDiff, ↓reduceIte, reduceCtorEq, Int.reduceToNat]
    exact end_bool rfl (beq_pair_ne h).symm
end Go.Proofs.Ytpgklagjjimbhaa
