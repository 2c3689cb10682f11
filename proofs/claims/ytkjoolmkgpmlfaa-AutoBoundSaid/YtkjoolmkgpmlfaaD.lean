/- YtkjoolmkgpmlfaaD: an automaton's timeouts: the steps. No claim. -/
import Derived.Test.YtkjoolmkgpmlfaaB
set_option linter.unusedVariables false
set_option linter.unusedSimpArgs false
set_option maxRecDepth 100000
namespace Go.Proofs.Ytkjoolmkgpmlfaa
open Go Go.Proofs.Ytkjoolmkgpmlfaa.V

set_option maxHeartbeats 8000000 in
theorem step_4_5 (a b c : Int) (r : Int) (h : 0 < r) (hr : r ≤ 255) (mc m m' : Bool) : Runs Try.prog env 12 [.pure mc (confV a b c), .pure m (autV 4 r), .pure m' (.int .i64 5)] [] (.tuple [.pure false (autV 4 (r - 1)), .pure false (.sl [.int .i64 10]), .pure true (.bool true)]) [] := by
  unfold confV autV
  have hmax : ∀ q : Bool, maxV (r - 1) [SV.pure q (.int .i64 0)] = some (r - 1) := by
    intro q
    simp only [maxV]
    split <;> first | rfl | (congr 1; omega)
  have wr : IntKind.i64.wrap (r - 1) = r - 1 := by rw [wrap_i64 (by omega) (by omega)]
  refine Runs.of Try.func12 rfl (by simp [Try.ntmps12]) ?_
  simp (maxSteps := 400000) -dsimp -implicitDefEqProofs (disch := first | exact TrueB.mk rfl | omega) only [go_sem, Nat.reduceMul, Nat.reduceAdd, Nat.reduceLT, Nat.reduceLeDiff, Nat.reducePow, Nat.reduceEqDiff, ↓reduceIte, reduceCtorEq, Int.reduceToNat, Try.ntmps12]
  first | refine wpAct_call0 (look_4_5 _ _) rfl rfl rfl rfl rfl rfl rfl rfl ?_ | done
  simp (maxSteps := 400000) -dsimp -implicitDefEqProofs (disch := first | exact TrueB.mk rfl | omega) only [go_sem, Nat.reduceMul, Nat.reduceAdd, Nat.reduceLT, Nat.reduceLeDiff, Nat.reducePow, Nat.reduceEqDiff, ↓reduceIte, reduceCtorEq, Int.reduceToNat]
  refine wpLoop_ind (α := Nat)
    (fun i => ⟨[(3, .ptr 1264 0), (4, .ptr 1265 0), (6, .ptr 1266 0), (10, .pure false (.sl [.int .i64 10])), (45, .pure false (.sl [.int .i64 10])), (46, .pure true (.int .i64 (1 : Nat))), (47, .pure true (.int .i64 i))], [(1264, .box [.pure mc (.int .i64 a), .pure mc (.int .i64 b), .pure mc (.int .i64 c), .pure mc (.int .i64 0), .pure mc (.str []), .pure mc (.str []), .pure mc (.int .i64 0), .pure mc (.int .u32 0), .pure mc (.bool false)]), (1265, .box [.pure false (.int .i64 4), (if i = 0 then .pure m (.int .i64 r) else .pure true (.int .i64 (r - 1)))]), (1266, .box [.pure true (.int .i64 0), .pure true (.int .i64 0)])]⟩)
    (fun i => i ≤ 1) (fun i => 1 - i) ?_ 0 (by omega) rfl
  rintro i hi
  have hii : i = 0 ∨ i = 1 := by omega
  rcases hii with rfl | rfl
  · simp only [if_true]
    simp (maxSteps := 400000) -dsimp -implicitDefEqProofs (disch := first | exact TrueB.mk rfl | omega) only [go_sem, Nat.reduceMul, Nat.reduceAdd, Nat.reduceLT, Nat.reduceLeDiff, Nat.reducePow, Nat.reduceEqDiff, ↓reduceIte, reduceCtorEq, Int.reduceToNat, hmax, wr]
    first | exact again_mk ⟨1, by omega, by omega, rfl⟩ | done
  · simp (maxSteps := 400000) -dsimp -implicitDefEqProofs (disch := first | exact TrueB.mk rfl | omega) only [go_sem, Nat.reduceMul, Nat.reduceAdd, Nat.reduceLT, Nat.reduceLeDiff, Nat.reducePow, Nat.reduceEqDiff, ↓reduceIte, reduceCtorEq, Int.reduceToNat]
    first | exact rfl | done

set_option maxHeartbeats 8000000 in
theorem step_5_5 (a b c : Int) (r : Int) (h : 0 < r) (hr : r ≤ 255) (mc m m' : Bool) : Runs Try.prog env 12 [.pure mc (confV a b c), .pure m (autV 5 r), .pure m' (.int .i64 5)] [] (.tuple [.pure false (autV 5 (r - 1)), .pure false (.sl [.int .i64 10]), .pure true (.bool true)]) [] := by
  unfold confV autV
  have hmax : ∀ q : Bool, maxV (r - 1) [SV.pure q (.int .i64 0)] = some (r - 1) := by
    intro q
    simp only [maxV]
    split <;> first | rfl | (congr 1; omega)
  have wr : IntKind.i64.wrap (r - 1) = r - 1 := by rw [wrap_i64 (by omega) (by omega)]
  refine Runs.of Try.func12 rfl (by simp [Try.ntmps12]) ?_
  simp (maxSteps := 400000) -dsimp -implicitDefEqProofs (disch := first | exact TrueB.mk rfl | omega) only [go_sem, Nat.reduceMul, Nat.reduceAdd, Nat.reduceLT, Nat.reduceLeDiff, Nat.reducePow, Nat.reduceEqDiff, ↓reduceIte, reduceCtorEq, Int.reduceToNat, Try.ntmps12]
  first | refine wpAct_call0 (look_5_5 _ _) rfl rfl rfl rfl rfl rfl rfl rfl ?_ | done
  simp (maxSteps := 400000) -dsimp -implicitDefEqProofs (disch := first | exact TrueB.mk rfl | omega) only [go_sem, Nat.reduceMul, Nat.reduceAdd, Nat.reduceLT, Nat.reduceLeDiff, Nat.reducePow, Nat.reduceEqDiff, ↓reduceIte, reduceCtorEq, Int.reduceToNat]
  refine wpLoop_ind (α := Nat)
    (fun i => ⟨[(3, .ptr 1264 0), (4, .ptr 1265 0), (6, .ptr 1266 0), (10, .pure false (.sl [.int .i64 10])), (45, .pure false (.sl [.int .i64 10])), (46, .pure true (.int .i64 (1 : Nat))), (47, .pure true (.int .i64 i))], [(1264, .box [.pure mc (.int .i64 a), .pure mc (.int .i64 b), .pure mc (.int .i64 c), .pure mc (.int .i64 0), .pure mc (.str []), .pure mc (.str []), .pure mc (.int .i64 0), .pure mc (.int .u32 0), .pure mc (.bool false)]), (1265, .box [.pure false (.int .i64 5), (if i = 0 then .pure m (.int .i64 r) else .pure true (.int .i64 (r - 1)))]), (1266, .box [.pure true (.int .i64 0), .pure true (.int .i64 0)])]⟩)
    (fun i => i ≤ 1) (fun i => 1 - i) ?_ 0 (by omega) rfl
  rintro i hi
  have hii : i = 0 ∨ i = 1 := by omega
  rcases hii with rfl | rfl
  · simp only [if_true]
    simp (maxSteps := 400000) -dsimp -implicitDefEqProofs (disch := first | exact TrueB.mk rfl | omega) only [go_sem, Nat.reduceMul, Nat.reduceAdd, Nat.reduceLT, Nat.reduceLeDiff, Nat.reducePow, Nat.reduceEqDiff, ↓reduceIte, reduceCtorEq, Int.reduceToNat, hmax, wr]
    first | exact again_mk ⟨1, by omega, by omega, rfl⟩ | done
  · simp (maxSteps := 400000) -dsimp -implicitDefEqProofs (disch := first | exact TrueB.mk rfl | omega) only [go_sem, Nat.reduceMul, Nat.reduceAdd, Nat.reduceLT, Nat.reduceLeDiff, Nat.reducePow, Nat.reduceEqDiff, ↓reduceIte, reduceCtorEq, Int.reduceToNat]
    first | exact rfl | done

set_option maxHeartbeats 8000000 in
theorem step_6_5 (a b c : Int) (r : Int) (h : 0 < r) (hr : r ≤ 255) (mc m m' : Bool) : Runs Try.prog env 12 [.pure mc (confV a b c), .pure m (autV 6 r), .pure m' (.int .i64 5)] [] (.tuple [.pure false (autV 6 (r - 1)), .pure false (.sl [.int .i64 7]), .pure true (.bool true)]) [] := by
  unfold confV autV
  have hmax : ∀ q : Bool, maxV (r - 1) [SV.pure q (.int .i64 0)] = some (r - 1) := by
    intro q
    simp only [maxV]
    split <;> first | rfl | (congr 1; omega)
  have wr : IntKind.i64.wrap (r - 1) = r - 1 := by rw [wrap_i64 (by omega) (by omega)]
  refine Runs.of Try.func12 rfl (by simp [Try.ntmps12]) ?_
  simp (maxSteps := 400000) -dsimp -implicitDefEqProofs (disch := first | exact TrueB.mk rfl | omega) only [go_sem, Nat.reduceMul, Nat.reduceAdd, Nat.reduceLT, Nat.reduceLeDiff, Nat.reducePow, Nat.reduceEqDiff, ↓reduceIte, reduceCtorEq, Int.reduceToNat, Try.ntmps12]
  first | refine wpAct_call0 (look_6_5 _ _) rfl rfl rfl rfl rfl rfl rfl rfl ?_ | done
  simp (maxSteps := 400000) -dsimp -implicitDefEqProofs (disch := first | exact TrueB.mk rfl | omega) only [go_sem, Nat.reduceMul, Nat.reduceAdd, Nat.reduceLT, Nat.reduceLeDiff, Nat.reducePow, Nat.reduceEqDiff, ↓reduceIte, reduceCtorEq, Int.reduceToNat]
  refine wpLoop_ind (α := Nat)
    (fun i => ⟨[(3, .ptr 1264 0), (4, .ptr 1265 0), (6, .ptr 1266 0), (10, .pure false (.sl [.int .i64 7])), (45, .pure false (.sl [.int .i64 7])), (46, .pure true (.int .i64 (1 : Nat))), (47, .pure true (.int .i64 i))], [(1264, .box [.pure mc (.int .i64 a), .pure mc (.int .i64 b), .pure mc (.int .i64 c), .pure mc (.int .i64 0), .pure mc (.str []), .pure mc (.str []), .pure mc (.int .i64 0), .pure mc (.int .u32 0), .pure mc (.bool false)]), (1265, .box [.pure false (.int .i64 6), (if i = 0 then .pure m (.int .i64 r) else .pure true (.int .i64 (r - 1)))]), (1266, .box [.pure true (.int .i64 0), .pure true (.int .i64 0)])]⟩)
    (fun i => i ≤ 1) (fun i => 1 - i) ?_ 0 (by omega) rfl
  rintro i hi
  have hii : i = 0 ∨ i = 1 := by omega
  rcases hii with rfl | rfl
  · simp only [if_true]
    simp (maxSteps := 400000) -dsimp -implicitDefEqProofs (disch := first | exact TrueB.mk rfl | omega) only [go_sem, Nat.reduceMul, Nat.reduceAdd, Nat.reduceLT, Nat.reduceLeDiff, Nat.reducePow, Nat.reduceEqDiff, ↓reduceIte, reduceCtorEq, Int.reduceToNat, hmax, wr]
    first | exact again_mk ⟨1, by omega, by omega, rfl⟩ | done
  · simp (maxSteps := 400000) -dsimp -implicitDefEqProofs (disch := first | exact TrueB.mk rfl | omega) only [go_sem, Nat.reduceMul, Nat.reduceAdd, Nat.reduceLT, Nat.reduceLeDiff, Nat.reducePow, Nat.reduceEqDiff, ↓reduceIte, reduceCtorEq, Int.reduceToNat]
    first | exact rfl | done

set_option maxHeartbeats 8000000 in
theorem step_7_5 (a b c : Int) (r : Int) (h : 0 < r) (hr : r ≤ 255) (mc m m' : Bool) : Runs Try.prog env 12 [.pure mc (confV a b c), .pure m (autV 7 r), .pure m' (.int .i64 5)] [] (.tuple [.pure false (autV 6 (r - 1)), .pure false (.sl [.int .i64 7]), .pure true (.bool true)]) [] := by
  unfold confV autV
  have hmax : ∀ q : Bool, maxV (r - 1) [SV.pure q (.int .i64 0)] = some (r - 1) := by
    intro q
    simp only [maxV]
    split <;> first | rfl | (congr 1; omega)
  have wr : IntKind.i64.wrap (r - 1) = r - 1 := by rw [wrap_i64 (by omega) (by omega)]
  refine Runs.of Try.func12 rfl (by simp [Try.ntmps12]) ?_
  simp (maxSteps := 400000) -dsimp -implicitDefEqProofs (disch := first | exact TrueB.mk rfl | omega) only [go_sem, Nat.reduceMul, Nat.reduceAdd, Nat.reduceLT, Nat.reduceLeDiff, Nat.reducePow, Nat.reduceEqDiff, ↓reduceIte, reduceCtorEq, Int.reduceToNat, Try.ntmps12]
  first | refine wpAct_call0 (look_7_5 _ _) rfl rfl rfl rfl rfl rfl rfl rfl ?_ | done
  simp (maxSteps := 400000) -dsimp -implicitDefEqProofs (disch := first | exact TrueB.mk rfl | omega) only [go_sem, Nat.reduceMul, Nat.reduceAdd, Nat.reduceLT, Nat.reduceLeDiff, Nat.reducePow, Nat.reduceEqDiff, ↓reduceIte, reduceCtorEq, Int.reduceToNat]
  refine wpLoop_ind (α := Nat)
    (fun i => ⟨[(3, .ptr 1264 0), (4, .ptr 1265 0), (6, .ptr 1266 0), (10, .pure false (.sl [.int .i64 7])), (45, .pure false (.sl [.int .i64 7])), (46, .pure true (.int .i64 (1 : Nat))), (47, .pure true (.int .i64 i))], [(1264, .box [.pure mc (.int .i64 a), .pure mc (.int .i64 b), .pure mc (.int .i64 c), .pure mc (.int .i64 0), .pure mc (.str []), .pure mc (.str []), .pure mc (.int .i64 0), .pure mc (.int .u32 0), .pure mc (.bool false)]), (1265, .box [.pure false (.int .i64 6), (if i = 0 then .pure m (.int .i64 r) else .pure true (.int .i64 (r - 1)))]), (1266, .box [.pure true (.int .i64 0), .pure true (.int .i64 0)])]⟩)
    (fun i => i ≤ 1) (fun i => 1 - i) ?_ 0 (by omega) rfl
  rintro i hi
  have hii : i = 0 ∨ i = 1 := by omega
  rcases hii with rfl | rfl
  · simp only [if_true]
    simp (maxSteps := 400000) -dsimp -implicitDefEqProofs (disch := first | exact TrueB.mk rfl | omega) only [go_sem, Nat.reduceMul, Nat.reduceAdd, Nat.reduceLT, Nat.reduceLeDiff, Nat.reducePow, Nat.reduceEqDiff, ↓reduceIte, reduceCtorEq, Int.reduceToNat, hmax, wr]
    first | exact again_mk ⟨1, by omega, by omega, rfl⟩ | done
  · simp (maxSteps := 400000) -dsimp -implicitDefEqProofs (disch := first | exact TrueB.mk rfl | omega) only [go_sem, Nat.reduceMul, Nat.reduceAdd, Nat.reduceLT, Nat.reduceLeDiff, Nat.reducePow, Nat.reduceEqDiff, ↓reduceIte, reduceCtorEq, Int.reduceToNat]
    first | exact rfl | done

set_option maxHeartbeats 8000000 in
theorem step_8_5 (a b c : Int) (r : Int) (h : 0 < r) (hr : r ≤ 255) (mc m m' : Bool) : Runs Try.prog env 12 [.pure mc (confV a b c), .pure m (autV 8 r), .pure m' (.int .i64 5)] [] (.tuple [.pure false (autV 8 (r - 1)), .pure false (.sl [.int .i64 7]), .pure true (.bool true)]) [] := by
  unfold confV autV
  have hmax : ∀ q : Bool, maxV (r - 1) [SV.pure q (.int .i64 0)] = some (r - 1) := by
    intro q
    simp only [maxV]
    split <;> first | rfl | (congr 1; omega)
  have wr : IntKind.i64.wrap (r - 1) = r - 1 := by rw [wrap_i64 (by omega) (by omega)]
  refine Runs.of Try.func12 rfl (by simp [Try.ntmps12]) ?_
  simp (maxSteps := 400000) -dsimp -implicitDefEqProofs (disch := first | exact TrueB.mk rfl | omega) only [go_sem, Nat.reduceMul, Nat.reduceAdd, Nat.reduceLT, Nat.reduceLeDiff, Nat.reducePow, Nat.reduceEqDiff, ↓reduceIte, reduceCtorEq, Int.reduceToNat, Try.ntmps12]
  first | refine wpAct_call0 (look_8_5 _ _) rfl rfl rfl rfl rfl rfl rfl rfl ?_ | done
  simp (maxSteps := 400000) -dsimp -implicitDefEqProofs (disch := first | exact TrueB.mk rfl | omega) only [go_sem, Nat.reduceMul, Nat.reduceAdd, Nat.reduceLT, Nat.reduceLeDiff, Nat.reducePow, Nat.reduceEqDiff, ↓reduceIte, reduceCtorEq, Int.reduceToNat]
  refine wpLoop_ind (α := Nat)
    (fun i => ⟨[(3, .ptr 1264 0), (4, .ptr 1265 0), (6, .ptr 1266 0), (10, .pure false (.sl [.int .i64 7])), (45, .pure false (.sl [.int .i64 7])), (46, .pure true (.int .i64 (1 : Nat))), (47, .pure true (.int .i64 i))], [(1264, .box [.pure mc (.int .i64 a), .pure mc (.int .i64 b), .pure mc (.int .i64 c), .pure mc (.int .i64 0), .pure mc (.str []), .pure mc (.str []), .pure mc (.int .i64 0), .pure mc (.int .u32 0), .pure mc (.bool false)]), (1265, .box [.pure false (.int .i64 8), (if i = 0 then .pure m (.int .i64 r) else .pure true (.int .i64 (r - 1)))]), (1266, .box [.pure true (.int .i64 0), .pure true (.int .i64 0)])]⟩)
    (fun i => i ≤ 1) (fun i => 1 - i) ?_ 0 (by omega) rfl
  rintro i hi
  have hii : i = 0 ∨ i = 1 := by omega
  rcases hii with rfl | rfl
  · simp only [if_true]
    simp (maxSteps := 400000) -dsimp -implicitDefEqProofs (disch := first | exact TrueB.mk rfl | omega) only [go_sem, Nat.reduceMul, Nat.reduceAdd, Nat.reduceLT, Nat.reduceLeDiff, Nat.reducePow, Nat.reduceEqDiff, ↓reduceIte, reduceCtorEq, Int.reduceToNat, hmax, wr]
    first | exact again_mk ⟨1, by omega, by omega, rfl⟩ | done
  · simp (maxSteps := 400000) -dsimp -implicitDefEqProofs (disch := first | exact TrueB.mk rfl | omega) only [go_sem, Nat.reduceMul, Nat.reduceAdd, Nat.reduceLT, Nat.reduceLeDiff, Nat.reducePow, Nat.reduceEqDiff, ↓reduceIte, reduceCtorEq, Int.reduceToNat]
    first | exact rfl | done

set_option maxHeartbeats 8000000 in
theorem step_4_6 (a b c : Int) (mc m m' : Bool) : Runs Try.prog env 12 [.pure mc (confV a b c), .pure m (autV 4 0), .pure m' (.int .i64 6)] [] (.tuple [.pure false (autV 2 0), .pure false (.sl [.int .i64 4]), .pure true (.bool true)]) [] := by
  unfold confV autV
  refine Runs.of Try.func12 rfl (by simp [Try.ntmps12]) ?_
  simp (maxSteps := 400000) -dsimp -implicitDefEqProofs (disch := first | exact TrueB.mk rfl | omega) only [go_sem, Nat.reduceMul, Nat.reduceAdd, Nat.reduceLT, Nat.reduceLeDiff, Nat.reducePow, Nat.reduceEqDiff, ↓reduceIte, reduceCtorEq, Int.reduceToNat, Try.ntmps12]
  first | refine wpAct_call0 (look_4_6 _ _) rfl rfl rfl rfl rfl rfl rfl rfl ?_ | done
  simp (maxSteps := 400000) -dsimp -implicitDefEqProofs (disch := first | exact TrueB.mk rfl | omega) only [go_sem, Nat.reduceMul, Nat.reduceAdd, Nat.reduceLT, Nat.reduceLeDiff, Nat.reducePow, Nat.reduceEqDiff, ↓reduceIte, reduceCtorEq, Int.reduceToNat]
  refine wpLoop_ind (α := Nat)
    (fun i => ⟨[(3, .ptr 1264 0), (4, .ptr 1265 0), (6, .ptr 1266 0), (10, .pure false (.sl [.int .i64 4])), (45, .pure false (.sl [.int .i64 4])), (46, .pure true (.int .i64 (1 : Nat))), (47, .pure true (.int .i64 i))], [(1264, .box [.pure mc (.int .i64 a), .pure mc (.int .i64 b), .pure mc (.int .i64 c), .pure mc (.int .i64 0), .pure mc (.str []), .pure mc (.str []), .pure mc (.int .i64 0), .pure mc (.int .u32 0), .pure mc (.bool false)]), (1265, .box [.pure false (.int .i64 2), .pure m (.int .i64 0)]), (1266, .box [.pure true (.int .i64 0), .pure true (.int .i64 0)])]⟩)
    (fun i => i ≤ 1) (fun i => 1 - i) ?_ 0 (by omega) rfl
  rintro i hi
  have hii : i = 0 ∨ i = 1 := by omega
  rcases hii with rfl | rfl
  · simp only [if_true]
    simp (maxSteps := 400000) -dsimp -implicitDefEqProofs (disch := first | exact TrueB.mk rfl | omega) only [go_sem, Nat.reduceMul, Nat.reduceAdd, Nat.reduceLT, Nat.reduceLeDiff, Nat.reducePow, Nat.reduceEqDiff, ↓reduceIte, reduceCtorEq, Int.reduceToNat]
    first | exact again_mk ⟨1, by omega, by omega, rfl⟩ | done
  · simp (maxSteps := 400000) -dsimp -implicitDefEqProofs (disch := first | exact TrueB.mk rfl | omega) only [go_sem, Nat.reduceMul, Nat.reduceAdd, Nat.reduceLT, Nat.reduceLeDiff, Nat.reducePow, Nat.reduceEqDiff, ↓reduceIte, reduceCtorEq, Int.reduceToNat]
    first | exact by cases m <;> rfl | done

set_option maxHeartbeats 8000000 in
theorem step_5_6 (a b c : Int) (mc m m' : Bool) : Runs Try.prog env 12 [.pure mc (confV a b c), .pure m (autV 5 0), .pure m' (.int .i64 6)] [] (.tuple [.pure false (autV 3 0), .pure false (.sl [.int .i64 4]), .pure true (.bool true)]) [] := by
  unfold confV autV
  refine Runs.of Try.func12 rfl (by simp [Try.ntmps12]) ?_
  simp (maxSteps := 400000) -dsimp -implicitDefEqProofs (disch := first | exact TrueB.mk rfl | omega) only [go_sem, Nat.reduceMul, Nat.reduceAdd, Nat.reduceLT, Nat.reduceLeDiff, Nat.reducePow, Nat.reduceEqDiff, ↓reduceIte, reduceCtorEq, Int.reduceToNat, Try.ntmps12]
  first | refine wpAct_call0 (look_5_6 _ _) rfl rfl rfl rfl rfl rfl rfl rfl ?_ | done
  simp (maxSteps := 400000) -dsimp -implicitDefEqProofs (disch := first | exact TrueB.mk rfl | omega) only [go_sem, Nat.reduceMul, Nat.reduceAdd, Nat.reduceLT, Nat.reduceLeDiff, Nat.reducePow, Nat.reduceEqDiff, ↓reduceIte, reduceCtorEq, Int.reduceToNat]
  refine wpLoop_ind (α := Nat)
    (fun i => ⟨[(3, .ptr 1264 0), (4, .ptr 1265 0), (6, .ptr 1266 0), (10, .pure false (.sl [.int .i64 4])), (45, .pure false (.sl [.int .i64 4])), (46, .pure true (.int .i64 (1 : Nat))), (47, .pure true (.int .i64 i))], [(1264, .box [.pure mc (.int .i64 a), .pure mc (.int .i64 b), .pure mc (.int .i64 c), .pure mc (.int .i64 0), .pure mc (.str []), .pure mc (.str []), .pure mc (.int .i64 0), .pure mc (.int .u32 0), .pure mc (.bool false)]), (1265, .box [.pure false (.int .i64 3), .pure m (.int .i64 0)]), (1266, .box [.pure true (.int .i64 0), .pure true (.int .i64 0)])]⟩)
    (fun i => i ≤ 1) (fun i => 1 - i) ?_ 0 (by omega) rfl
  rintro i hi
  have hii : i = 0 ∨ i = 1 := by omega
  rcases hii with rfl | rfl
  · simp only [if_true]
    simp (maxSteps := 400000) -dsimp -implicitDefEqProofs (disch := first | exact TrueB.mk rfl | omega) only [go_sem, Nat.reduceMul, Nat.reduceAdd, Nat.reduceLT, Nat.reduceLeDiff, Nat.reducePow, Nat.reduceEqDiff, ↓reduceIte, reduceCtorEq, Int.reduceToNat]
    first | exact again_mk ⟨1, by omega, by omega, rfl⟩ | done
  · simp (maxSteps := 400000) -dsimp -implicitDefEqProofs (disch := first | exact TrueB.mk rfl | omega) only [go_sem, Nat.reduceMul, Nat.reduceAdd, Nat.reduceLT, Nat.reduceLeDiff, Nat.reducePow, Nat.reduceEqDiff, ↓reduceIte, reduceCtorEq, Int.reduceToNat]
    first | exact by cases m <;> rfl | done

set_option maxHeartbeats 8000000 in
theorem step_6_6 (a b c : Int) (mc m m' : Bool) : Runs Try.prog env 12 [.pure mc (confV a b c), .pure m (autV 6 0), .pure m' (.int .i64 6)] [] (.tuple [.pure false (autV 3 0), .pure false (.sl [.int .i64 4]), .pure true (.bool true)]) [] := by
  unfold confV autV
  refine Runs.of Try.func12 rfl (by simp [Try.ntmps12]) ?_
  simp (maxSteps := 400000) -dsimp -implicitDefEqProofs (disch := first | exact TrueB.mk rfl | omega) only [go_sem, Nat.reduceMul, Nat.reduceAdd, Nat.reduceLT, Nat.reduceLeDiff, Nat.reducePow, Nat.reduceEqDiff, ↓reduceIte, reduceCtorEq, Int.reduceToNat, Try.ntmps12]
  first | refine wpAct_call0 (look_6_6 _ _) rfl rfl rfl rfl rfl rfl rfl rfl ?_ | done
  simp (maxSteps := 400000) -dsimp -implicitDefEqProofs (disch := first | exact TrueB.mk rfl | omega) only [go_sem, Nat.reduceMul, Nat.reduceAdd, Nat.reduceLT, Nat.reduceLeDiff, Nat.reducePow, Nat.reduceEqDiff, ↓reduceIte, reduceCtorEq, Int.reduceToNat]
  refine wpLoop_ind (α := Nat)
    (fun i => ⟨[(3, .ptr 1264 0), (4, .ptr 1265 0), (6, .ptr 1266 0), (10, .pure false (.sl [.int .i64 4])), (45, .pure false (.sl [.int .i64 4])), (46, .pure true (.int .i64 (1 : Nat))), (47, .pure true (.int .i64 i))], [(1264, .box [.pure mc (.int .i64 a), .pure mc (.int .i64 b), .pure mc (.int .i64 c), .pure mc (.int .i64 0), .pure mc (.str []), .pure mc (.str []), .pure mc (.int .i64 0), .pure mc (.int .u32 0), .pure mc (.bool false)]), (1265, .box [.pure false (.int .i64 3), .pure m (.int .i64 0)]), (1266, .box [.pure true (.int .i64 0), .pure true (.int .i64 0)])]⟩)
    (fun i => i ≤ 1) (fun i => 1 - i) ?_ 0 (by omega) rfl
  rintro i hi
  have hii : i = 0 ∨ i = 1 := by omega
  rcases hii with rfl | rfl
  · simp only [if_true]
    simp (maxSteps := 400000) -dsimp -implicitDefEqProofs (disch := first | exact TrueB.mk rfl | omega) only [go_sem, Nat.reduceMul, Nat.reduceAdd, Nat.reduceLT, Nat.reduceLeDiff, Nat.reducePow, Nat.reduceEqDiff, ↓reduceIte, reduceCtorEq, Int.reduceToNat]
    first | exact again_mk ⟨1, by omega, by omega, rfl⟩ | done
  · simp (maxSteps := 400000) -dsimp -implicitDefEqProofs (disch := first | exact TrueB.mk rfl | omega) only [go_sem, Nat.reduceMul, Nat.reduceAdd, Nat.reduceLT, Nat.reduceLeDiff, Nat.reducePow, Nat.reduceEqDiff, ↓reduceIte, reduceCtorEq, Int.reduceToNat]
    first | exact by cases m <;> rfl | done

set_option maxHeartbeats 8000000 in
theorem step_7_6 (a b c : Int) (mc m m' : Bool) : Runs Try.prog env 12 [.pure mc (confV a b c), .pure m (autV 7 0), .pure m' (.int .i64 6)] [] (.tuple [.pure false (autV 3 0), .pure false (.sl [.int .i64 4]), .pure true (.bool true)]) [] := by
  unfold confV autV
  refine Runs.of Try.func12 rfl (by simp [Try.ntmps12]) ?_
  simp (maxSteps := 400000) -dsimp -implicitDefEqProofs (disch := first | exact TrueB.mk rfl | omega) only [go_sem, Nat.reduceMul, Nat.reduceAdd, Nat.reduceLT, Nat.reduceLeDiff, Nat.reducePow, Nat.reduceEqDiff, ↓reduceIte, reduceCtorEq, Int.reduceToNat, Try.ntmps12]
  first | refine wpAct_call0 (look_7_6 _ _) rfl rfl rfl rfl rfl rfl rfl rfl ?_ | done
  simp (maxSteps := 400000) -dsimp -implicitDefEqProofs (disch := first | exact TrueB.mk rfl | omega) only [go_sem, Nat.reduceMul, Nat.reduceAdd, Nat.reduceLT, Nat.reduceLeDiff, Nat.reducePow, Nat.reduceEqDiff, ↓reduceIte, reduceCtorEq, Int.reduceToNat]
  refine wpLoop_ind (α := Nat)
    (fun i => ⟨[(3, .ptr 1264 0), (4, .ptr 1265 0), (6, .ptr 1266 0), (10, .pure false (.sl [.int .i64 4])), (45, .pure false (.sl [.int .i64 4])), (46, .pure true (.int .i64 (1 : Nat))), (47, .pure true (.int .i64 i))], [(1264, .box [.pure mc (.int .i64 a), .pure mc (.int .i64 b), .pure mc (.int .i64 c), .pure mc (.int .i64 0), .pure mc (.str []), .pure mc (.str []), .pure mc (.int .i64 0), .pure mc (.int .u32 0), .pure mc (.bool false)]), (1265, .box [.pure false (.int .i64 3), .pure m (.int .i64 0)]), (1266, .box [.pure true (.int .i64 0), .pure true (.int .i64 0)])]⟩)
    (fun i => i ≤ 1) (fun i => 1 - i) ?_ 0 (by omega) rfl
  rintro i hi
  have hii : i = 0 ∨ i = 1 := by omega
  rcases hii with rfl | rfl
  · simp only [if_true]
    simp (maxSteps := 400000) -dsimp -implicitDefEqProofs (disch := first | exact TrueB.mk rfl | omega) only [go_sem, Nat.reduceMul, Nat.reduceAdd, Nat.reduceLT, Nat.reduceLeDiff, Nat.reducePow, Nat.reduceEqDiff, ↓reduceIte, reduceCtorEq, Int.reduceToNat]
    first | exact again_mk ⟨1, by omega, by omega, rfl⟩ | done
  · simp (maxSteps := 400000) -dsimp -implicitDefEqProofs (disch := first | exact TrueB.mk rfl | omega) only [go_sem, Nat.reduceMul, Nat.reduceAdd, Nat.reduceLT, Nat.reduceLeDiff, Nat.reducePow, Nat.reduceEqDiff, ↓reduceIte, reduceCtorEq, Int.reduceToNat]
    first | exact by cases m <;> rfl | done

set_option maxHeartbeats 8000000 in
theorem step_8_6 (a b c : Int) (mc m m' : Bool) : Runs Try.prog env 12 [.pure mc (confV a b c), .pure m (autV 8 0), .pure m' (.int .i64 6)] [] (.tuple [.pure false (autV 3 0), .pure false (.sl [.int .i64 4]), .pure true (.bool true)]) [] := by
  unfold confV autV
  refine Runs.of Try.func12 rfl (by simp [Try.ntmps12]) ?_
  simp (maxSteps := 400000) -dsimp -implicitDefEqProofs (disch := first | exact TrueB.mk rfl | omega) only [go_sem, Nat.reduceMul, Nat.reduceAdd, Nat.reduceLT, Nat.reduceLeDiff, Nat.reducePow, Nat.reduceEqDiff, ↓reduceIte, reduceCtorEq, Int.reduceToNat, Try.ntmps12]
  first | refine wpAct_call0 (look_8_6 _ _) rfl rfl rfl rfl rfl rfl rfl rfl ?_ | done
  simp (maxSteps := 400000) -dsimp -implicitDefEqProofs (disch := first | exact TrueB.mk rfl | omega) only [go_sem, Nat.reduceMul, Nat.reduceAdd, Nat.reduceLT, Nat.reduceLeDiff, Nat.reducePow, Nat.reduceEqDiff, ↓reduceIte, reduceCtorEq, Int.reduceToNat]
  refine wpLoop_ind (α := Nat)
    (fun i => ⟨[(3, .ptr 1264 0), (4, .ptr 1265 0), (6, .ptr 1266 0), (10, .pure false (.sl [.int .i64 4])), (45, .pure false (.sl [.int .i64 4])), (46, .pure true (.int .i64 (1 : Nat))), (47, .pure true (.int .i64 i))], [(1264, .box [.pure mc (.int .i64 a), .pure mc (.int .i64 b), .pure mc (.int .i64 c), .pure mc (.int .i64 0), .pure mc (.str []), .pure mc (.str []), .pure mc (.int .i64 0), .pure mc (.int .u32 0), .pure mc (.bool false)]), (1265, .box [.pure false (.int .i64 3), .pure m (.int .i64 0)]), (1266, .box [.pure true (.int .i64 0), .pure true (.int .i64 0)])]⟩)
    (fun i => i ≤ 1) (fun i => 1 - i) ?_ 0 (by omega) rfl
  rintro i hi
  have hii : i = 0 ∨ i = 1 := by omega
  rcases hii with rfl | rfl
  · simp only [if_true]
    simp (maxSteps := 400000) -dsimp -implicitDefEqProofs (disch := first | exact TrueB.mk rfl | omega) only [go_sem, Nat.reduceMul, Nat.reduceAdd, Nat.reduceLT, Nat.reduceLeDiff, Nat.reducePow, Nat.reduceEqDiff, ↓reduceIte, reduceCtorEq, Int.reduceToNat]
    first | exact again_mk ⟨1, by omega, by omega, rfl⟩ | done
  · simp (maxSteps := 400000) -dsimp -implicitDefEqProofs (disch := first | exact TrueB.mk rfl | omega) only [go_sem, Nat.reduceMul, Nat.reduceAdd, Nat.reduceLT, Nat.reduceLeDiff, Nat.reducePow, Nat.reduceEqDiff, ↓reduceIte, reduceCtorEq, Int.reduceToNat]
    first | exact by cases m <;> rfl | done
end Go.Proofs.Ytkjoolmkgpmlfaa
