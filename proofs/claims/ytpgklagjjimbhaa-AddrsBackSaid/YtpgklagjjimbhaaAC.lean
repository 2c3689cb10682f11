/- YtpgklagjjimbhaaAC: addresses: an Interface-Identifier, put into them. No claim. -/
import Derived.Test.YtpgklagjjimbhaaAB
set_option linter.unusedVariables false
set_option linter.unusedSimpArgs false
set_option maxRecDepth 100000
namespace Go.Proofs.Ytpgklagjjimbhaa
open Go Go.Proofs.Ytpgklagjjimbhaa.V

set_option maxHeartbeats 8000000 in
theorem read_id0 {o : Opt} (hk : knownP 32855 o.1 = true) (h3 : o.2 = []) (f : Nat → Bool) (a : Adr) (m m2 : Bool) : readS 32855 o f a m m2 := by
  obtain ⟨t, b⟩ := o
  simp only at h3 hk
  subst h3
  have c1 := known_any 32855 t
  rw [hk] at c1
  have e : rightP 32855 (t, []) = false := by unfold rightP; rw [hk, if_pos rfl, decide_eq_false (by simp only [List.length_cons, List.length_nil]; omega)]; rfl
  have q1 : min (0) 8 = 0 := by rfl
  have q2 : List.take 0 (bytesOf ([])) = [] := rfl
  have q3 : List.map (SV.pure m2) ([] : List PV) = [] := rfl
  have q4 := allCell_bytesOf ([])
  refine ⟨cellsA (fun j => match j with | 28 => true | j => f j) { a with hasId := false, id := a.id }, ?_, fun h => (by rw [e] at h; cases h), rfl⟩
  rw [e]
  unfold optV cellsA
  refine Runs.of Try.func89 rfl (by simp [Try.ntmps89]) ?_
  simp (maxSteps := 400000) -dsimp -implicitDefEqProofs (disch := first | exact TrueB.mk rfl | omega) only [go_sem, Nat.reduceMul, Nat.reduceAdd, Nat.reduceLT, Nat.reduceLeDiff, Nat.reducePow, Nat.reduceEqDiff, ↓reduceIte, reduceCtorEq, Int.reduceToNat, Try.ntmps89]
  first | refine wpAct_call0 (c1 _ _) rfl rfl rfl rfl rfl rfl rfl rfl ?_ | done
  simp (maxSteps := 400000) -dsimp -implicitDefEqProofs (disch := first | exact TrueB.mk rfl | omega) only [go_sem, Nat.reduceMul, Nat.reduceAdd, Nat.reduceLT, Nat.reduceLeDiff, Nat.reducePow, Nat.reduceEqDiff, ↓reduceIte, reduceCtorEq, Int.reduceToNat, q1, q2, q3, q4, Nat.sub_zero, Nat.min_self]
  first | exact rfl | done

set_option maxHeartbeats 8000000 in
theorem read_id1 {o : Opt} {x0 : UInt8} (hk : knownP 32855 o.1 = true) (h3 : o.2 = [x0]) (f : Nat → Bool) (a : Adr) (m m2 : Bool) : readS 32855 o f a m m2 := by
  obtain ⟨t, b⟩ := o
  simp only at h3 hk
  subst h3
  have c1 := known_any 32855 t
  rw [hk] at c1
  have e : rightP 32855 (t, [x0]) = false := by unfold rightP; rw [hk, if_pos rfl, decide_eq_false (by simp only [List.length_cons, List.length_nil]; omega)]; rfl
  have q1 : min (1) 8 = 1 := by rfl
  have q2 : List.take 1 (bytesOf ([x0])) = [.int .u8 (x0.toNat : Int)] := rfl
  have q3 : List.map (SV.pure m2) ([.int .u8 (x0.toNat : Int)] : List PV) = [SV.pure m2 (.int .u8 (x0.toNat : Int))] := rfl
  have q4 := allCell_bytesOf ([x0])
  refine ⟨cellsA (fun j => match j with | 28 => true | 29 => m2 | j => f j) { a with hasId := false, id := { a.id with a := x0 } }, ?_, fun h => (by rw [e] at h; cases h), rfl⟩
  rw [e]
  unfold optV cellsA
  refine Runs.of Try.func89 rfl (by simp [Try.ntmps89]) ?_
  simp (maxSteps := 400000) -dsimp -implicitDefEqProofs (disch := first | exact TrueB.mk rfl | omega) only [go_sem, Nat.reduceMul, Nat.reduceAdd, Nat.reduceLT, Nat.reduceLeDiff, Nat.reducePow, Nat.reduceEqDiff, ↓reduceIte, reduceCtorEq, Int.reduceToNat, Try.ntmps89]
  first | refine wpAct_call0 (c1 _ _) rfl rfl rfl rfl rfl rfl rfl rfl ?_ | done
  simp (maxSteps := 400000) -dsimp -implicitDefEqProofs (disch := first | exact TrueB.mk rfl | omega) only [go_sem, Nat.reduceMul, Nat.reduceAdd, Nat.reduceLT, Nat.reduceLeDiff, Nat.reducePow, Nat.reduceEqDiff, ↓reduceIte, reduceCtorEq, Int.reduceToNat, q1, q2, q3, q4, Nat.sub_zero, Nat.min_self]
  first | exact rfl | done

set_option maxHeartbeats 8000000 in
theorem read_id2 {o : Opt} {x0 x1 : UInt8} (hk : knownP 32855 o.1 = true) (h3 : o.2 = [x0, x1]) (f : Nat → Bool) (a : Adr) (m m2 : Bool) : readS 32855 o f a m m2 := by
  obtain ⟨t, b⟩ := o
  simp only at h3 hk
  subst h3
  have c1 := known_any 32855 t
  rw [hk] at c1
  have e : rightP 32855 (t, [x0, x1]) = false := by unfold rightP; rw [hk, if_pos rfl, decide_eq_false (by simp only [List.length_cons, List.length_nil]; omega)]; rfl
  have q1 : min (2) 8 = 2 := by rfl
  have q2 : List.take 2 (bytesOf ([x0, x1])) = [.int .u8 (x0.toNat : Int), .int .u8 (x1.toNat : Int)] := rfl
  have q3 : List.map (SV.pure m2) ([.int .u8 (x0.toNat : Int), .int .u8 (x1.toNat : Int)] : List PV) = [SV.pure m2 (.int .u8 (x0.toNat : Int)), SV.pure m2 (.int .u8 (x1.toNat : Int))] := rfl
  have q4 := allCell_bytesOf ([x0, x1])
  refine ⟨cellsA (fun j => match j with | 28 => true | 29 => m2 | 30 => m2 | j => f j) { a with hasId := false, id := { a.id with a := x0, b := x1 } }, ?_, fun h => (by rw [e] at h; cases h), rfl⟩
  rw [e]
  unfold optV cellsA
  refine Runs.of Try.func89 rfl (by simp [Try.ntmps89]) ?_
  simp (maxSteps := 400000) -dsimp -implicitDefEqProofs (disch := first | exact TrueB.mk rfl | omega) only [go_sem, Nat.reduceMul, Nat.reduceAdd, Nat.reduceLT, Nat.reduceLeDiff, Nat.reducePow, Nat.reduceEqDiff, ↓reduceIte, reduceCtorEq, Int.reduceToNat, Try.ntmps89]
  first | refine wpAct_call0 (c1 _ _) rfl rfl rfl rfl rfl rfl rfl rfl ?_ | done
  simp (maxSteps := 400000) -dsimp -implicitDefEqProofs (disch := first | exact TrueB.mk rfl | omega) only [go_sem, Nat.reduceMul, Nat.reduceAdd, Nat.reduceLT, Nat.reduceLeDiff, Nat.reducePow, Nat.reduceEqDiff, ↓reduceIte, reduceCtorEq, Int.reduceToNat, q1, q2, q3, q4, Nat.sub_zero, Nat.min_self]
  first | exact rfl | done

set_option maxHeartbeats 8000000 in
theorem read_id3 {o : Opt} {x0 x1 x2 : UInt8} (hk : knownP 32855 o.1 = true) (h3 : o.2 = [x0, x1, x2]) (f : Nat → Bool) (a : Adr) (m m2 : Bool) : readS 32855 o f a m m2 := by
  obtain ⟨t, b⟩ := o
  simp only at h3 hk
  subst h3
  have c1 := known_any 32855 t
  rw [hk] at c1
  have e : rightP 32855 (t, [x0, x1, x2]) = false := by unfold rightP; rw [hk, if_pos rfl, decide_eq_false (by simp only [List.length_cons, List.length_nil]; omega)]; rfl
  have q1 : min (3) 8 = 3 := by rfl
  have q2 : List.take 3 (bytesOf ([x0, x1, x2])) = [.int .u8 (x0.toNat : Int), .int .u8 (x1.toNat : Int), .int .u8 (x2.toNat : Int)] := rfl
  have q3 : List.map (SV.pure m2) ([.int .u8 (x0.toNat : Int), .int .u8 (x1.toNat : Int), .int .u8 (x2.toNat : Int)] : List PV) = [SV.pure m2 (.int .u8 (x0.toNat : Int)), SV.pure m2 (.int .u8 (x1.toNat : Int)), SV.pure m2 (.int .u8 (x2.toNat : Int))] := rfl
  have q4 := allCell_bytesOf ([x0, x1, x2])
  refine ⟨cellsA (fun j => match j with | 28 => true | 29 => m2 | 30 => m2 | 31 => m2 | j => f j) { a with hasId := false, id := { a.id with a := x0, b := x1, c := x2 } }, ?_, fun h => (by rw [e] at h; cases h), rfl⟩
  rw [e]
  unfold optV cellsA
  refine Runs.of Try.func89 rfl (by simp [Try.ntmps89]) ?_
  simp (maxSteps := 400000) -dsimp -implicitDefEqProofs (disch := first | exact TrueB.mk rfl | omega) only [go_sem, Nat.reduceMul, Nat.reduceAdd, Nat.reduceLT, Nat.reduceLeDiff, Nat.reducePow, Nat.reduceEqDiff, ↓reduceIte, reduceCtorEq, Int.reduceToNat, Try.ntmps89]
  first | refine wpAct_call0 (c1 _ _) rfl rfl rfl rfl rfl rfl rfl rfl ?_ | done
  simp (maxSteps := 400000) -dsimp -implicitDefEqProofs (disch := first | exact TrueB.mk rfl | omega) only [go_sem, Nat.reduceMul, Nat.reduceAdd, Nat.reduceLT, Nat.reduceLeDiff, Nat.reducePow, Nat.reduceEqDiff, ↓reduceIte, reduceCtorEq, Int.reduceToNat, q1, q2, q3, q4, Nat.sub_zero, Nat.min_self]
  first | exact rfl | done

set_option maxHeartbeats 8000000 in
theorem read_id4 {o : Opt} {x0 x1 x2 x3 : UInt8} (hk : knownP 32855 o.1 = true) (h3 : o.2 = [x0, x1, x2, x3]) (f : Nat → Bool) (a : Adr) (m m2 : Bool) : readS 32855 o f a m m2 := by
  obtain ⟨t, b⟩ := o
  simp only at h3 hk
  subst h3
  have c1 := known_any 32855 t
  rw [hk] at c1
  have e : rightP 32855 (t, [x0, x1, x2, x3]) = false := by unfold rightP; rw [hk, if_pos rfl, decide_eq_false (by simp only [List.length_cons, List.length_nil]; omega)]; rfl
  have q1 : min (4) 8 = 4 := by rfl
  have q2 : List.take 4 (bytesOf ([x0, x1, x2, x3])) = [.int .u8 (x0.toNat : Int), .int .u8 (x1.toNat : Int), .int .u8 (x2.toNat : Int), .int .u8 (x3.toNat : Int)] := rfl
  have q3 : List.map (SV.pure m2) ([.int .u8 (x0.toNat : Int), .int .u8 (x1.toNat : Int), .int .u8 (x2.toNat : Int), .int .u8 (x3.toNat : Int)] : List PV) = [SV.pure m2 (.int .u8 (x0.toNat : Int)), SV.pure m2 (.int .u8 (x1.toNat : Int)), SV.pure m2 (.int .u8 (x2.toNat : Int)), SV.pure m2 (.int .u8 (x3.toNat : Int))] := rfl
  have q4 := allCell_bytesOf ([x0, x1, x2, x3])
  refine ⟨cellsA (fun j => match j with | 28 => true | 29 => m2 | 30 => m2 | 31 => m2 | 32 => m2 | j => f j) { a with hasId := false, id := { a.id with a := x0, b := x1, c := x2, d := x3 } }, ?_, fun h => (by rw [e] at h; cases h), rfl⟩
  rw [e]
  unfold optV cellsA
  refine Runs.of Try.func89 rfl (by simp [Try.ntmps89]) ?_
  simp (maxSteps := 400000) -dsimp -implicitDefEqProofs (disch := first | exact TrueB.mk rfl | omega) only [go_sem, Nat.reduceMul, Nat.reduceAdd, Nat.reduceLT, Nat.reduceLeDiff, Nat.reducePow, Nat.reduceEqDiff, ↓reduceIte, reduceCtorEq, Int.reduceToNat, Try.ntmps89]
  first | refine wpAct_call0 (c1 _ _) rfl rfl rfl rfl rfl rfl rfl rfl ?_ | done
  simp (maxSteps := 400000) -dsimp -implicitDefEqProofs (disch := first | exact TrueB.mk rfl | omega) only [go_sem, Nat.reduceMul, Nat.reduceAdd, Nat.reduceLT, Nat.reduceLeDiff, Nat.reducePow, Nat.reduceEqDiff, ↓reduceIte, reduceCtorEq, Int.reduceToNat, q1, q2, q3, q4, Nat.sub_zero, Nat.min_self]
  first | exact rfl | done

set_option maxHeartbeats 8000000 in
theorem read_id5 {o : Opt} {x0 x1 x2 x3 x4 : UInt8} (hk : knownP 32855 o.1 = true) (h3 : o.2 = [x0, x1, x2, x3, x4]) (f : Nat → Bool) (a : Adr) (m m2 : Bool) : readS 32855 o f a m m2 := by
  obtain ⟨t, b⟩ := o
  simp only at h3 hk
  subst h3
  have c1 := known_any 32855 t
  rw [hk] at c1
  have e : rightP 32855 (t, [x0, x1, x2, x3, x4]) = false := by unfold rightP; rw [hk, if_pos rfl, decide_eq_false (by simp only [List.length_cons, List.length_nil]; omega)]; rfl
  have q1 : min (5) 8 = 5 := by rfl
  have q2 : List.take 5 (bytesOf ([x0, x1, x2, x3, x4])) = [.int .u8 (x0.toNat : Int), .int .u8 (x1.toNat : Int), .int .u8 (x2.toNat : Int), .int .u8 (x3.toNat : Int), .int .u8 (x4.toNat : Int)] := rfl
  have q3 : List.map (SV.pure m2) ([.int .u8 (x0.toNat : Int), .int .u8 (x1.toNat : Int), .int .u8 (x2.toNat : Int), .int .u8 (x3.toNat : Int), .int .u8 (x4.toNat : Int)] : List PV) = [SV.pure m2 (.int .u8 (x0.toNat : Int)), SV.pure m2 (.int .u8 (x1.toNat : Int)), SV.pure m2 (.int .u8 (x2.toNat : Int)), SV.pure m2 (.int .u8 (x3.toNat : Int)), SV.pure m2 (.int .u8 (x4.toNat : Int))] := rfl
  have q4 := allCell_bytesOf ([x0, x1, x2, x3, x4])
  refine ⟨cellsA (fun j => match j with | 28 => true | 29 => m2 | 30 => m2 | 31 => m2 | 32 => m2 | 33 => m2 | j => f j) { a with hasId := false, id := { a.id with a := x0, b := x1, c := x2, d := x3, e := x4 } }, ?_, fun h => (by rw [e] at h; cases h), rfl⟩
  rw [e]
  unfold optV cellsA
  refine Runs.of Try.func89 rfl (by simp [Try.ntmps89]) ?_
  simp (maxSteps := 400000) -dsimp -implicitDefEqProofs (disch := first | exact TrueB.mk rfl | omega) only [go_sem, Nat.reduceMul, Nat.reduceAdd, Nat.reduceLT, Nat.reduceLeDiff, Nat.reducePow, Nat.reduceEqDiff, ↓reduceIte, reduceCtorEq, Int.reduceToNat, Try.ntmps89]
  first | refine wpAct_call0 (c1 _ _) rfl rfl rfl rfl rfl rfl rfl rfl ?_ | done
  simp (maxSteps := 400000) -dsimp -implicitDefEqProofs (disch := first | exact TrueB.mk rfl | omega) only [go_sem, Nat.reduceMul, Nat.reduceAdd, Nat.reduceLT, Nat.reduceLeDiff, Nat.reducePow, Nat.reduceEqDiff, ↓reduceIte, reduceCtorEq, Int.reduceToNat, q1, q2, q3, q4, Nat.sub_zero, Nat.min_self]
  first | exact rfl | done

set_option maxHeartbeats 8000000 in
theorem read_id6 {o : Opt} {x0 x1 x2 x3 x4 x5 : UInt8} (hk : knownP 32855 o.1 = true) (h3 : o.2 = [x0, x1, x2, x3, x4, x5]) (f : Nat → Bool) (a : Adr) (m m2 : Bool) : readS 32855 o f a m m2 := by
  obtain ⟨t, b⟩ := o
  simp only at h3 hk
  subst h3
  have c1 := known_any 32855 t
  rw [hk] at c1
  have e : rightP 32855 (t, [x0, x1, x2, x3, x4, x5]) = false := by unfold rightP; rw [hk, if_pos rfl, decide_eq_false (by simp only [List.length_cons, List.length_nil]; omega)]; rfl
  have q1 : min (6) 8 = 6 := by rfl
  have q2 : List.take 6 (bytesOf ([x0, x1, x2, x3, x4, x5])) = [.int .u8 (x0.toNat : Int), .int .u8 (x1.toNat : Int), .int .u8 (x2.toNat : Int), .int .u8 (x3.toNat : Int), .int .u8 (x4.toNat : Int), .int .u8 (x5.toNat : Int)] := rfl
  have q3 : List.map (SV.pure m2) ([.int .u8 (x0.toNat : Int), .int .u8 (x1.toNat : Int), .int .u8 (x2.toNat : Int), .int .u8 (x3.toNat : Int), .int .u8 (x4.toNat : Int), .int .u8 (x5.toNat : Int)] : List PV) = [SV.pure m2 (.int .u8 (x0.toNat : Int)), SV.pure m2 (.int .u8 (x1.toNat : Int)), SV.pure m2 (.int .u8 (x2.toNat : Int)), SV.pure m2 (.int .u8 (x3.toNat : Int)), SV.pure m2 (.int .u8 (x4.toNat : Int)), SV.pure m2 (.int .u8 (x5.toNat : Int))] := rfl
  have q4 := allCell_bytesOf ([x0, x1, x2, x3, x4, x5])
  refine ⟨cellsA (fun j => match j with | 28 => true | 29 => m2 | 30 => m2 | 31 => m2 | 32 => m2 | 33 => m2 | 34 => m2 | j => f j) { a with hasId := false, id := { a.id with a := x0, b := x1, c := x2, d := x3, e := x4, f := x5 } }, ?_, fun h => (by rw [e] at h; cases h), rfl⟩
  rw [e]
  unfold optV cellsA
  refine Runs.of Try.func89 rfl (by simp [Try.ntmps89]) ?_
  simp (maxSteps := 400000) -dsimp -implicitDefEqProofs (disch := first | exact TrueB.mk rfl | omega) only [go_sem, Nat.reduceMul, Nat.reduceAdd, Nat.reduceLT, Nat.reduceLeDiff, Nat.reducePow, Nat.reduceEqDiff, ↓reduceIte, reduceCtorEq, Int.reduceToNat, Try.ntmps89]
  first | refine wpAct_call0 (c1 _ _) rfl rfl rfl rfl rfl rfl rfl rfl ?_ | done
  simp (maxSteps := 400000) -dsimp -implicitDefEqProofs (disch := first | exact TrueB.mk rfl | omega) only [go_sem, Nat.reduceMul, Nat.reduceAdd, Nat.reduceLT, Nat.reduceLeDiff, Nat.reducePow, Nat.reduceEqDiff, ↓reduceIte, reduceCtorEq, Int.reduceToNat, q1, q2, q3, q4, Nat.sub_zero, Nat.min_self]
  first | exact rfl | done

set_option maxHeartbeats 8000000 in
theorem read_id7 {o : Opt} {x0 x1 x2 x3 x4 x5 x6 : UInt8} (hk : knownP 32855 o.1 = true) (h3 : o.2 = [x0, x1, x2, x3, x4, x5, x6]) (f : Nat → Bool) (a : Adr) (m m2 : Bool) : readS 32855 o f a m m2 := by
  obtain ⟨t, b⟩ := o
  simp only at h3 hk
  subst h3
  have c1 := known_any 32855 t
  rw [hk] at c1
  have e : rightP 32855 (t, [x0, x1, x2, x3, x4, x5, x6]) = false := by unfold rightP; rw [hk, if_pos rfl, decide_eq_false (by simp only [List.length_cons, List.length_nil]; omega)]; rfl
  have q1 : min (7) 8 = 7 := by rfl
  have q2 : List.take 7 (bytesOf ([x0, x1, x2, x3, x4, x5, x6])) = [.int .u8 (x0.toNat : Int), .int .u8 (x1.toNat : Int), .int .u8 (x2.toNat : Int), .int .u8 (x3.toNat : Int), .int .u8 (x4.toNat : Int), .int .u8 (x5.toNat : Int), .int .u8 (x6.toNat : Int)] := rfl
  have q3 : List.map (SV.pure m2) ([.int .u8 (x0.toNat : Int), .int .u8 (x1.toNat : Int), .int .u8 (x2.toNat : Int), .int .u8 (x3.toNat : Int), .int .u8 (x4.toNat : Int), .int .u8 (x5.toNat : Int), .int .u8 (x6.toNat : Int)] : List PV) = [SV.pure m2 (.int .u8 (x0.toNat : Int)), SV.pure m2 (.int .u8 (x1.toNat : Int)), SV.pure m2 (.int .u8 (x2.toNat : Int)), SV.pure m2 (.int .u8 (x3.toNat : Int)), SV.pure m2 (.int .u8 (x4.toNat : Int)), SV.pure m2 (.int .u8 (x5.toNat : Int)), SV.pure m2 (.int .u8 (x6.toNat : Int))] := rfl
  have q4 := allCell_bytesOf ([x0, x1, x2, x3, x4, x5, x6])
  refine ⟨cellsA (fun j => match j with | 28 => true | 29 => m2 | 30 => m2 | 31 => m2 | 32 => m2 | 33 => m2 | 34 => m2 | 35 => m2 | j => f j) { a with hasId := false, id := { a.id with a := x0, b := x1, c := x2, d := x3, e := x4, f := x5, g := x6 } }, ?_, fun h => (by rw [e] at h; cases h), rfl⟩
  rw [e]
  unfold optV cellsA
  refine Runs.of Try.func89 rfl (by simp [Try.ntmps89]) ?_
  simp (maxSteps := 400000) -dsimp -implicitDefEqProofs (disch := first | exact TrueB.mk rfl | omega) only [go_sem, Nat.reduceMul, Nat.reduceAdd, Nat.reduceLT, Nat.reduceLeDiff, Nat.reducePow, Nat.reduceEqDiff, ↓reduceIte, reduceCtorEq, Int.reduceToNat, Try.ntmps89]
  first | refine wpAct_call0 (c1 _ _) rfl rfl rfl rfl rfl rfl rfl rfl ?_ | done
  simp (maxSteps := 400000) -dsimp -implicitDefEqProofs (disch := first | exact TrueB.mk rfl | omega) only [go_sem, Nat.reduceMul, Nat.reduceAdd, Nat.reduceLT, Nat.reduceLeDiff, Nat.reducePow, Nat.reduceEqDiff, ↓reduceIte, reduceCtorEq, Int.reduceToNat, q1, q2, q3, q4, Nat.sub_zero, Nat.min_self]
  first | exact rfl | done

set_option maxHeartbeats 8000000 in
theorem read_id8 {o : Opt} {x0 x1 x2 x3 x4 x5 x6 x7 : UInt8} (hk : knownP 32855 o.1 = true) (h3 : o.2 = [x0, x1, x2, x3, x4, x5, x6, x7]) (f : Nat → Bool) (a : Adr) (m m2 : Bool) : readS 32855 o f a m m2 := by
  obtain ⟨t, b⟩ := o
  simp only at h3 hk
  subst h3
  have c1 := known_any 32855 t
  rw [hk] at c1
  have e : rightP 32855 (t, [x0, x1, x2, x3, x4, x5, x6, x7]) = !(decide (x0.toNat = 0) && (decide (x1.toNat = 0) && (decide (x2.toNat = 0) && (decide (x3.toNat = 0) && (decide (x4.toNat = 0) && (decide (x5.toNat = 0) && (decide (x6.toNat = 0) && (decide (x7.toNat = 0))))))))) := by unfold rightP; rw [hk, if_pos rfl]; simp [someB]
  have q1 : min (8) 8 = 8 := by rfl
  have q2 : List.take 8 (bytesOf ([x0, x1, x2, x3, x4, x5, x6, x7])) = [.int .u8 (x0.toNat : Int), .int .u8 (x1.toNat : Int), .int .u8 (x2.toNat : Int), .int .u8 (x3.toNat : Int), .int .u8 (x4.toNat : Int), .int .u8 (x5.toNat : Int), .int .u8 (x6.toNat : Int), .int .u8 (x7.toNat : Int)] := rfl
  have q3 : List.map (SV.pure m2) ([.int .u8 (x0.toNat : Int), .int .u8 (x1.toNat : Int), .int .u8 (x2.toNat : Int), .int .u8 (x3.toNat : Int), .int .u8 (x4.toNat : Int), .int .u8 (x5.toNat : Int), .int .u8 (x6.toNat : Int), .int .u8 (x7.toNat : Int)] : List PV) = [SV.pure m2 (.int .u8 (x0.toNat : Int)), SV.pure m2 (.int .u8 (x1.toNat : Int)), SV.pure m2 (.int .u8 (x2.toNat : Int)), SV.pure m2 (.int .u8 (x3.toNat : Int)), SV.pure m2 (.int .u8 (x4.toNat : Int)), SV.pure m2 (.int .u8 (x5.toNat : Int)), SV.pure m2 (.int .u8 (x6.toNat : Int)), SV.pure m2 (.int .u8 (x7.toNat : Int))] := rfl
  have q4 := allCell_bytesOf ([x0, x1, x2, x3, x4, x5, x6, x7])
  refine ⟨cellsA (fun j => match j with | 28 => true | 29 => m2 | 30 => m2 | 31 => m2 | 32 => m2 | 33 => m2 | 34 => m2 | 35 => m2 | 36 => m2 | j => f j) (updA 32855 a (t, [x0, x1, x2, x3, x4, x5, x6, x7])), ?_, fun _ => (by unfold updF; rw [if_pos rfl]; rfl), rfl⟩
  rw [e]
  unfold updA
  rw [if_pos rfl]
  unfold optV cellsA
  refine Runs.of Try.func89 rfl (by simp [Try.ntmps89]) ?_
  simp (maxSteps := 400000) -dsimp -implicitDefEqProofs (disch := first | exact TrueB.mk rfl | omega) only [go_sem, Nat.reduceMul, Nat.reduceAdd, Nat.reduceLT, Nat.reduceLeDiff, Nat.reducePow, Nat.reduceEqDiff, ↓reduceIte, reduceCtorEq, Int.reduceToNat, Try.ntmps89]
  first | refine wpAct_call0 (c1 _ _) rfl rfl rfl rfl rfl rfl rfl rfl ?_ | done
  simp (maxSteps := 400000) -dsimp -implicitDefEqProofs (disch := first | exact TrueB.mk rfl | omega) only [go_sem, Nat.reduceMul, Nat.reduceAdd, Nat.reduceLT, Nat.reduceLeDiff, Nat.reducePow, Nat.reduceEqDiff, ↓reduceIte, reduceCtorEq, Int.reduceToNat, q1, q2, q3, q4, Nat.sub_zero, Nat.min_self]
  first | exact rfl | done

set_option maxHeartbeats 8000000 in
theorem read_id8m {o : Opt} {x0 x1 x2 x3 x4 x5 x6 x7 : UInt8} {r : List UInt8} (hr : 0 < r.length) (hk : knownP 32855 o.1 = true) (h3 : o.2 = x0 :: x1 :: x2 :: x3 :: x4 :: x5 :: x6 :: x7 :: r) (f : Nat → Bool) (a : Adr) (m m2 : Bool) : readS 32855 o f a m m2 := by
  obtain ⟨t, b⟩ := o
  simp only at h3 hk
  subst h3
  have c1 := known_any 32855 t
  rw [hk] at c1
  have e : rightP 32855 (t, x0 :: x1 :: x2 :: x3 :: x4 :: x5 :: x6 :: x7 :: r) = false := by unfold rightP; rw [hk, if_pos rfl, decide_eq_false (by simp only [List.length_cons, List.length_nil]; omega)]; rfl
  have q1 : min (r.length + 1 + 1 + 1 + 1 + 1 + 1 + 1 + 1) 8 = 8 := by omega
  have q2 : List.take 8 (bytesOf (x0 :: x1 :: x2 :: x3 :: x4 :: x5 :: x6 :: x7 :: r)) = [.int .u8 (x0.toNat : Int), .int .u8 (x1.toNat : Int), .int .u8 (x2.toNat : Int), .int .u8 (x3.toNat : Int), .int .u8 (x4.toNat : Int), .int .u8 (x5.toNat : Int), .int .u8 (x6.toNat : Int), .int .u8 (x7.toNat : Int)] := rfl
  have q3 : List.map (SV.pure m2) ([.int .u8 (x0.toNat : Int), .int .u8 (x1.toNat : Int), .int .u8 (x2.toNat : Int), .int .u8 (x3.toNat : Int), .int .u8 (x4.toNat : Int), .int .u8 (x5.toNat : Int), .int .u8 (x6.toNat : Int), .int .u8 (x7.toNat : Int)] : List PV) = [SV.pure m2 (.int .u8 (x0.toNat : Int)), SV.pure m2 (.int .u8 (x1.toNat : Int)), SV.pure m2 (.int .u8 (x2.toNat : Int)), SV.pure m2 (.int .u8 (x3.toNat : Int)), SV.pure m2 (.int .u8 (x4.toNat : Int)), SV.pure m2 (.int .u8 (x5.toNat : Int)), SV.pure m2 (.int .u8 (x6.toNat : Int)), SV.pure m2 (.int .u8 (x7.toNat : Int))] := rfl
  have q4 := allCell_bytesOf (x0 :: x1 :: x2 :: x3 :: x4 :: x5 :: x6 :: x7 :: r)
  refine ⟨cellsA (fun j => match j with | 28 => true | 29 => m2 | 30 => m2 | 31 => m2 | 32 => m2 | 33 => m2 | 34 => m2 | 35 => m2 | 36 => m2 | j => f j) { a with hasId := false, id := { a.id with a := x0, b := x1, c := x2, d := x3, e := x4, f := x5, g := x6, h := x7 } }, ?_, fun h => (by rw [e] at h; cases h), rfl⟩
  rw [e]
  unfold optV cellsA
  refine Runs.of Try.func89 rfl (by simp [Try.ntmps89]) ?_
  simp (maxSteps := 400000) -dsimp -implicitDefEqProofs (disch := first | exact TrueB.mk rfl | omega) only [go_sem, Nat.reduceMul, Nat.reduceAdd, Nat.reduceLT, Nat.reduceLeDiff, Nat.reducePow, Nat.reduceEqDiff, ↓reduceIte, reduceCtorEq, Int.reduceToNat, Try.ntmps89]
  first | refine wpAct_call0 (c1 _ _) rfl rfl rfl rfl rfl rfl rfl rfl ?_ | done
  simp (maxSteps := 400000) -dsimp -implicitDefEqProofs (disch := first | exact TrueB.mk rfl | omega) only [go_sem, Nat.reduceMul, Nat.reduceAdd, Nat.reduceLT, Nat.reduceLeDiff, Nat.reducePow, Nat.reduceEqDiff, ↓reduceIte, reduceCtorEq, Int.reduceToNat, q1, q2, q3, q4, Nat.sub_zero, Nat.min_self]
  first | exact rfl | done

theorem len_cases (l : List UInt8) : l = [] ∨ (∃ a, l = [a]) ∨ (∃ a b, l = [a, b]) ∨ (∃ a b c, l = [a, b, c]) ∨ (∃ a b c d, l = [a, b, c, d]) ∨ (∃ a b c d e, l = [a, b, c, d, e]) ∨ (∃ a b c d e f, l = [a, b, c, d, e, f]) ∨ (∃ a b c d e f g, l = [a, b, c, d, e, f, g]) ∨ (∃ a b c d e f g h, l = [a, b, c, d, e, f, g, h]) ∨ (∃ a b c d e f g h r, 0 < r.length ∧ l = a :: b :: c :: d :: e :: f :: g :: h :: r) := by
  match l with
  | [] => exact .inl rfl
  | [a] => exact .inr (.inl ⟨_, rfl⟩)
  | [a, b] => exact .inr (.inr (.inl ⟨_, _, rfl⟩))
  | [a, b, c] => exact .inr (.inr (.inr (.inl ⟨_, _, _, rfl⟩)))
  | [a, b, c, d] => exact .inr (.inr (.inr (.inr (.inl ⟨_, _, _, _, rfl⟩))))
  | [a, b, c, d, e] => exact .inr (.inr (.inr (.inr (.inr (.inl ⟨_, _, _, _, _, rfl⟩)))))
  | [a, b, c, d, e, f] => exact .inr (.inr (.inr (.inr (.inr (.inr (.inl ⟨_, _, _, _, _, _, rfl⟩))))))
  | [a, b, c, d, e, f, g] => exact .inr (.inr (.inr (.inr (.inr (.inr (.inr (.inl ⟨_, _, _, _, _, _, _, rfl⟩)))))))
  | [a, b, c, d, e, f, g, h] => exact .inr (.inr (.inr (.inr (.inr (.inr (.inr (.inr (.inl ⟨_, _, _, _, _, _, _, _, rfl⟩))))))))
  | a :: b :: c :: d :: e :: f :: g :: h :: i :: r => exact .inr (.inr (.inr (.inr (.inr (.inr (.inr (.inr (.inr ⟨_, _, _, _, _, _, _, _, _, by simp, rfl⟩))))))))

theorem read_any (p : Int) (o : Opt) (f : Nat → Bool) (a : Adr) (m m2 : Bool) : readS p o f a m m2 := by
  cases hk : knownP p o.1 with
  | false => exact read_not hk f a m m2
  | true =>
  by_cases h1 : p = 32855
  · subst h1
    rcases len_cases o.2 with h | ⟨x0, h⟩ | ⟨x0, x1, h⟩ | ⟨x0, x1, x2, h⟩ | ⟨x0, x1, x2, x3, h⟩ | ⟨x0, x1, x2, x3, x4, h⟩ | ⟨x0, x1, x2, x3, x4, x5, h⟩ | ⟨x0, x1, x2, x3, x4, x5, x6, h⟩ | ⟨x0, x1, x2, x3, x4, x5, x6, x7, h⟩ | ⟨x0, x1, x2, x3, x4, x5, x6, x7, r, hr, h⟩
    · exact read_id0 hk h f a m m2
    · exact read_id1 hk h f a m m2
    · exact read_id2 hk h f a m m2
    · exact read_id3 hk h f a m m2
    · exact read_id4 hk h f a m m2
    · exact read_id5 hk h f a m m2
    · exact read_id6 hk h f a m m2
    · exact read_id7 hk h f a m m2
    · exact read_id8 hk h f a m m2
    · exact read_id8m hr hk h f a m m2
  · by_cases h2 : (o.2.length : Int) = 4
    · obtain ⟨x, y, z, w, h3⟩ := four_of h2
      obtain ⟨_, h4⟩ := knownP_ipc h1 hk
      have h5 : o.1 = 2 ∨ o.1 = 3 ∨ o.1 = 129 ∨ o.1 = 130 ∨ o.1 = 131 ∨ o.1 = 132 := by omega
      rcases h5 with h5 | h5 | h5 | h5 | h5 | h5
      · exact read_vj hk h1 h5 h3 f a m m2
      · exact read_ip hk h1 h5 h3 f a m m2
      · exact read_d0 hk h1 h5 h3 f a m m2
      · exact read_d1 hk h1 h5 h3 f a m m2
      · exact read_d2 hk h1 h5 h3 f a m m2
      · exact read_d3 hk h1 h5 h3 f a m m2
    · exact read_short hk h1 h2 f a m m2
end Go.Proofs.Ytpgklagjjimbhaa
