/- YtpgklagjjimbhaaAB: addresses: what an option tells, put into them. No claim. -/
import Derived.Test.YtpgklagjjimbhaaAA
set_option linter.unusedVariables false
set_option linter.unusedSimpArgs false
set_option maxRecDepth 100000
namespace Go.Proofs.Ytpgklagjjimbhaa
open Go Go.Proofs.Ytpgklagjjimbhaa.V

structure W4 where
  a : UInt8
  b : UInt8
  c : UInt8
  d : UInt8
structure W8 where
  a : UInt8
  b : UInt8
  c : UInt8
  d : UInt8
  e : UInt8
  f : UInt8
  g : UInt8
  h : UInt8
def w4 (l : List UInt8) : W4 := ⟨l.getD 0 0, l.getD 1 0, l.getD 2 0, l.getD 3 0⟩
def w8 (l : List UInt8) : W8 := ⟨l.getD 0 0, l.getD 1 0, l.getD 2 0, l.getD 3 0, l.getD 4 0, l.getD 5 0, l.getD 6 0, l.getD 7 0⟩
structure Adr where
  hasIp : Bool
  ip : W4
  hasVj : Bool
  slots : Int
  vjId : Bool
  h0 : Bool
  h1 : Bool
  h2 : Bool
  h3 : Bool
  d0 : W4
  d1 : W4
  d2 : W4
  d3 : W4
  hasId : Bool
  id : W8
def cellsA (f : Nat → Bool) (a : Adr) : List SV := [.pure (f 0) (.bool a.hasIp), .pure (f 1) (.int .u8 a.ip.a.toNat), .pure (f 2) (.int .u8 a.ip.b.toNat), .pure (f 3) (.int .u8 a.ip.c.toNat), .pure (f 4) (.int .u8 a.ip.d.toNat), .pure (f 5) (.bool a.hasVj), .pure (f 6) (.int .i64 a.slots), .pure (f 7) (.bool a.vjId), .pure (f 8) (.bool a.h0), .pure (f 9) (.bool a.h1), .pure (f 10) (.bool a.h2), .pure (f 11) (.bool a.h3), .pure (f 12) (.int .u8 a.d0.a.toNat), .pure (f 13) (.int .u8 a.d0.b.toNat), .pure (f 14) (.int .u8 a.d0.c.toNat), .pure (f 15) (.int .u8 a.d0.d.toNat), .pure (f 16) (.int .u8 a.d1.a.toNat), .pure (f 17) (.int .u8 a.d1.b.toNat), .pure (f 18) (.int .u8 a.d1.c.toNat), .pure (f 19) (.int .u8 a.d1.d.toNat), .pure (f 20) (.int .u8 a.d2.a.toNat), .pure (f 21) (.int .u8 a.d2.b.toNat), .pure (f 22) (.int .u8 a.d2.c.toNat), .pure (f 23) (.int .u8 a.d2.d.toNat), .pure (f 24) (.int .u8 a.d3.a.toNat), .pure (f 25) (.int .u8 a.d3.b.toNat), .pure (f 26) (.int .u8 a.d3.c.toNat), .pure (f 27) (.int .u8 a.d3.d.toNat), .pure (f 28) (.bool a.hasId), .pure (f 29) (.int .u8 a.id.a.toNat), .pure (f 30) (.int .u8 a.id.b.toNat), .pure (f 31) (.int .u8 a.id.c.toNat), .pure (f 32) (.int .u8 a.id.d.toNat), .pure (f 33) (.int .u8 a.id.e.toNat), .pure (f 34) (.int .u8 a.id.f.toNat), .pure (f 35) (.int .u8 a.id.g.toNat), .pure (f 36) (.int .u8 a.id.h.toNat)]
def adrV (a : Adr) : PV := .agg [.bool a.hasIp, .int .u8 a.ip.a.toNat, .int .u8 a.ip.b.toNat, .int .u8 a.ip.c.toNat, .int .u8 a.ip.d.toNat, .bool a.hasVj, .int .i64 a.slots, .bool a.vjId, .bool a.h0, .bool a.h1, .bool a.h2, .bool a.h3, .int .u8 a.d0.a.toNat, .int .u8 a.d0.b.toNat, .int .u8 a.d0.c.toNat, .int .u8 a.d0.d.toNat, .int .u8 a.d1.a.toNat, .int .u8 a.d1.b.toNat, .int .u8 a.d1.c.toNat, .int .u8 a.d1.d.toNat, .int .u8 a.d2.a.toNat, .int .u8 a.d2.b.toNat, .int .u8 a.d2.c.toNat, .int .u8 a.d2.d.toNat, .int .u8 a.d3.a.toNat, .int .u8 a.d3.b.toNat, .int .u8 a.d3.c.toNat, .int .u8 a.d3.d.toNat, .bool a.hasId, .int .u8 a.id.a.toNat, .int .u8 a.id.b.toNat, .int .u8 a.id.c.toNat, .int .u8 a.id.d.toNat, .int .u8 a.id.e.toNat, .int .u8 a.id.f.toNat, .int .u8 a.id.g.toNat, .int .u8 a.id.h.toNat]
def zeroA : Adr := ⟨false, ⟨0, 0, 0, 0⟩, false, 0, false, false, false, false, false, ⟨0, 0, 0, 0⟩, ⟨0, 0, 0, 0⟩, ⟨0, 0, 0, 0⟩, ⟨0, 0, 0, 0⟩, false, ⟨0, 0, 0, 0, 0, 0, 0, 0⟩⟩
def updA (p : Int) (a : Adr) (o : Opt) : Adr :=
  if p = 32855 then { a with hasId := true, id := w8 o.2 }
  else if o.1 = 2 then { a with hasVj := true, slots := ((o.2.getD 2 0).toNat : Int), vjId := (((o.2.getD 3 0).toNat : Int) == 1) }
  else if o.1 = 3 then { a with hasIp := true, ip := w4 o.2 }
  else if o.1 = 129 then { a with h0 := true, d0 := w4 o.2 }
  else if o.1 = 130 then { a with h1 := true, d1 := w4 o.2 }
  else if o.1 = 131 then { a with h2 := true, d2 := w4 o.2 }
  else { a with h3 := true, d3 := w4 o.2 }

def updF (p : Int) (f : Nat → Bool) (o : Opt) (m2 : Bool) : Nat → Bool :=
  if p = 32855 then (fun j => match j with | 28 => true | 29 => m2 | 30 => m2 | 31 => m2 | 32 => m2 | 33 => m2 | 34 => m2 | 35 => m2 | 36 => m2 | j => f j)
  else if o.1 = 2 then (fun j => match j with | 5 => true | 6 => true | 7 => true | j => f j)
  else if o.1 = 3 then (fun j => match j with | 0 => true | 1 => m2 | 2 => m2 | 3 => m2 | 4 => m2 | j => f j)
  else if o.1 = 129 then (fun j => match j with | 8 => true | 12 => m2 | 13 => m2 | 14 => m2 | 15 => m2 | j => f j)
  else if o.1 = 130 then (fun j => match j with | 9 => true | 16 => m2 | 17 => m2 | 18 => m2 | 19 => m2 | j => f j)
  else if o.1 = 131 then (fun j => match j with | 10 => true | 20 => m2 | 21 => m2 | 22 => m2 | 23 => m2 | j => f j)
  else (fun j => match j with | 11 => true | 24 => m2 | 25 => m2 | 26 => m2 | 27 => m2 | j => f j)

theorem knownP_ip6 {t : Int} (h : knownP 32855 t = true) : t = 1 := by
  unfold knownP at h
  rw [if_neg (by decide), if_pos rfl] at h
  exact of_decide_eq_true h
theorem knownP_ipc {p t : Int} (h1 : ¬ p = 32855) (h : knownP p t = true) : p = 32801 ∧ (t = 2 ∨ t = 3 ∨ (129 ≤ t ∧ t ≤ 132)) := by
  unfold knownP at h
  by_cases h2 : p = 32801
  · rw [if_pos h2] at h
    exact ⟨h2, of_decide_eq_true h⟩
  · rw [if_neg h2, if_neg h1] at h
    cases h

def readS (p : Int) (o : Opt) (f : Nat → Bool) (a : Adr) (m m2 : Bool) : Prop := ∃ cs, Runs Try.prog env 89 [.ptr 0 0, .pure m (.int .i64 p), .pure m2 (optV o)] [(0, .box (cellsA f a))] (.pure true (.bool (rightP p o))) [(0, .box cs)] ∧ (rightP p o = true → cs = cellsA (updF p f o m2) (updA p a o)) ∧ cs.length = 37

set_option maxHeartbeats 8000000 in
theorem read_not {p : Int} {o : Opt} (hk : knownP p o.1 = false) (f : Nat → Bool) (a : Adr) (m m2 : Bool) : readS p o f a m m2 := by
  have c1 := known_any p o.1
  rw [hk] at c1
  have e : rightP p o = false := by unfold rightP; rw [hk]; rfl
  refine ⟨cellsA f a, ?_, fun h => (by rw [e] at h; cases h), rfl⟩
  rw [e]
  unfold optV cellsA
  refine Runs.of Try.func89 rfl (by simp [Try.ntmps89]) ?_
  simp (maxSteps := 400000) -dsimp -implicitDefEqProofs (disch := first | exact TrueB.mk rfl | omega) only [go_sem, Nat.reduceMul, Nat.reduceAdd, Nat.reduceLT, Nat.reduceLeDiff, Nat.reducePow, Nat.reduceEqDiff, ↓reduceIte, reduceCtorEq, Int.reduceToNat, Try.ntmps89]
  first | refine wpAct_call0 (c1 _ _) rfl rfl rfl rfl rfl rfl rfl rfl ?_ | done
  simp (maxSteps := 400000) -dsimp -implicitDefEqProofs (disch := first | exact TrueB.mk rfl | omega) only [go_sem, Nat.reduceMul, Nat.reduceAdd, Nat.reduceLT, Nat.reduceLeDiff, Nat.reducePow, Nat.reduceEqDiff, ↓reduceIte, reduceCtorEq, Int.reduceToNat]
  first | exact rfl | done

set_option maxHeartbeats 8000000 in
theorem read_short {p : Int} {o : Opt} (hk : knownP p o.1 = true) (h1 : ¬ p = 32855) (h2 : ¬ (o.2.length : Int) = 4) (f : Nat → Bool) (a : Adr) (m m2 : Bool) : readS p o f a m m2 := by
  have c1 := known_any p o.1
  rw [hk] at c1
  have e : rightP p o = false := by unfold rightP; rw [hk, if_neg h1, decide_eq_false h2]; rfl
  refine ⟨cellsA f a, ?_, fun h => (by rw [e] at h; cases h), rfl⟩
  rw [e]
  unfold optV cellsA
  refine Runs.of Try.func89 rfl (by simp [Try.ntmps89]) ?_
  simp (maxSteps := 400000) -dsimp -implicitDefEqProofs (disch := first | exact TrueB.mk rfl | omega) only [go_sem, Nat.reduceMul, Nat.reduceAdd, Nat.reduceLT, Nat.reduceLeDiff, Nat.reducePow, Nat.reduceEqDiff, ↓reduceIte, reduceCtorEq, Int.reduceToNat, Try.ntmps89]
  first | refine wpAct_call0 (c1 _ _) rfl rfl rfl rfl rfl rfl rfl rfl ?_ | done
  simp (maxSteps := 400000) -dsimp -implicitDefEqProofs (disch := first | exact TrueB.mk rfl | omega) only [go_sem, Nat.reduceMul, Nat.reduceAdd, Nat.reduceLT, Nat.reduceLeDiff, Nat.reducePow, Nat.reduceEqDiff, ↓reduceIte, reduceCtorEq, Int.reduceToNat]
  first | exact rfl | done

set_option maxHeartbeats 8000000 in
theorem read_vj {p : Int} {o : Opt} {x y z w : UInt8} (hk : knownP p o.1 = true) (h1 : ¬ p = 32855) (h2 : o.1 = 2) (h3 : o.2 = [x, y, z, w]) (f : Nat → Bool) (a : Adr) (m m2 : Bool) : readS p o f a m m2 := by
  obtain ⟨t, b⟩ := o
  simp only at h2 h3 hk
  subst h2 h3
  have c1 := known_any p 2
  rw [hk] at c1
  have e : rightP p (2, [x, y, z, w]) = (decide ((x.toNat : Int) = 0) && decide ((y.toNat : Int) = 45) && decide ((w.toNat : Int) < 2)) := by unfold rightP; rw [hk, if_neg h1]; simp [vjOk]
  have q0 : (bytesOf [x, y, z, w])[0]? = some (.int .u8 (x.toNat : Int)) := rfl
  have q1 : (bytesOf [x, y, z, w])[1]? = some (.int .u8 (y.toNat : Int)) := rfl
  have q2 : (bytesOf [x, y, z, w])[2]? = some (.int .u8 (z.toNat : Int)) := rfl
  have q3 : (bytesOf [x, y, z, w])[3]? = some (.int .u8 (w.toNat : Int)) := rfl
  have wz : IntKind.i64.wrap (z.toNat : Int) = (z.toNat : Int) := by
    have := z.toNat_lt
    rw [wrap_i64 (by omega) (by omega)]
  refine ⟨cellsA (fun j => match j with | 5 => true | 6 => true | 7 => true | j => f j) (updA p a (2, [x, y, z, w])), ?_, fun _ => (by unfold updF; rw [if_neg h1, if_pos rfl]), rfl⟩
  rw [e]
  unfold updA
  rw [if_neg h1, if_pos rfl]
  unfold optV cellsA
  refine Runs.of Try.func89 rfl (by simp [Try.ntmps89]) ?_
  simp (maxSteps := 400000) -dsimp -implicitDefEqProofs (disch := first | exact TrueB.mk rfl | omega) only [go_sem, Nat.reduceMul, Nat.reduceAdd, Nat.reduceLT, Nat.reduceLeDiff, Nat.reducePow, Nat.reduceEqDiff, ↓reduceIte, reduceCtorEq, Int.reduceToNat, Try.ntmps89]
  first | refine wpAct_call0 (c1 _ _) rfl rfl rfl rfl rfl rfl rfl rfl ?_ | done
  rcases Classical.em ((x.toNat : Int) = 0) with h4 | h4
  rotate_left
  · simp (maxSteps := 400000) -dsimp -implicitDefEqProofs (disch := first | exact TrueB.mk rfl | omega) only [go_sem, Nat.reduceMul, Nat.reduceAdd, Nat.reduceLT, Nat.reduceLeDiff, Nat.reducePow, Nat.reduceEqDiff, ↓reduceIte, reduceCtorEq, Int.reduceToNat, q0, q1, q2, q3, wz]
    first | exact rfl | done
  rcases Classical.em ((y.toNat : Int) = 45) with h5 | h5
  rotate_left
  · simp (maxSteps := 400000) -dsimp -implicitDefEqProofs (disch := first | exact TrueB.mk rfl | omega) only [go_sem, Nat.reduceMul, Nat.reduceAdd, Nat.reduceLT, Nat.reduceLeDiff, Nat.reducePow, Nat.reduceEqDiff, ↓reduceIte, reduceCtorEq, Int.reduceToNat, q0, q1, q2, q3, wz]
    first | exact rfl | done
  have h6 : decide ((w.toNat : Int) ≤ 1) = decide ((w.toNat : Int) < 2) := by
    by_cases h : (w.toNat : Int) ≤ 1
    · rw [decide_eq_true h, decide_eq_true (by omega)]
    · rw [decide_eq_false h, decide_eq_false (by omega)]
  simp (maxSteps := 400000) -dsimp -implicitDefEqProofs (disch := first | exact TrueB.mk rfl | omega) only [go_sem, Nat.reduceMul, Nat.reduceAdd, Nat.reduceLT, Nat.reduceLeDiff, Nat.reducePow, Nat.reduceEqDiff, ↓reduceIte, reduceCtorEq, Int.reduceToNat, q0, q1, q2, q3, wz, h6]
  first | exact rfl | done

set_option maxHeartbeats 8000000 in
theorem read_ip {p : Int} {o : Opt} {x y z w : UInt8} (hk : knownP p o.1 = true) (h1 : ¬ p = 32855) (h2 : o.1 = 3) (h3 : o.2 = [x, y, z, w]) (f : Nat → Bool) (a : Adr) (m m2 : Bool) : readS p o f a m m2 := by
  obtain ⟨t, b⟩ := o
  simp only at h2 h3 hk
  subst h2 h3
  have c1 := known_any p 3
  rw [hk] at c1
  have e : rightP p (3, [x, y, z, w]) = true := by unfold rightP; rw [hk, if_neg h1]; simp
  refine ⟨cellsA (fun j => match j with | 0 => true | 1 => m2 | 2 => m2 | 3 => m2 | 4 => m2 | j => f j) (updA p a (3, [x, y, z, w])), ?_, fun _ => (by unfold updF; rw [if_neg h1, if_neg (show ¬ (3 : Int) = 2 by decide), if_pos rfl]), rfl⟩
  rw [e]
  unfold updA
  rw [if_neg h1, if_neg (show ¬ (3 : Int) = 2 by decide), if_pos rfl]
  unfold optV cellsA
  refine Runs.of Try.func89 rfl (by simp [Try.ntmps89]) ?_
  simp (maxSteps := 400000) -dsimp -implicitDefEqProofs (disch := first | exact TrueB.mk rfl | omega) only [go_sem, Nat.reduceMul, Nat.reduceAdd, Nat.reduceLT, Nat.reduceLeDiff, Nat.reducePow, Nat.reduceEqDiff, ↓reduceIte, reduceCtorEq, Int.reduceToNat, Try.ntmps89]
  first | refine wpAct_call0 (c1 _ _) rfl rfl rfl rfl rfl rfl rfl rfl ?_ | done
  have qf : List.flatMap PV.cells (bytesOf [x, y, z, w]) = [.int .u8 (x.toNat : Int), .int .u8 (y.toNat : Int), .int .u8 (z.toNat : Int), .int .u8 (w.toNat : Int)] := rfl
  simp (maxSteps := 400000) -dsimp -implicitDefEqProofs (disch := first | exact TrueB.mk rfl | omega) only [go_sem, Nat.reduceMul, Nat.reduceAdd, Nat.reduceLT, Nat.reduceLeDiff, Nat.reducePow, Nat.reduceEqDiff, ↓reduceIte, reduceCtorEq, Int.reduceToNat, qf]
  first | exact rfl | done

set_option maxHeartbeats 8000000 in
theorem read_d0 {p : Int} {o : Opt} {x y z w : UInt8} (hk : knownP p o.1 = true) (h1 : ¬ p = 32855) (h2 : o.1 = 129) (h3 : o.2 = [x, y, z, w]) (f : Nat → Bool) (a : Adr) (m m2 : Bool) : readS p o f a m m2 := by
  obtain ⟨t, b⟩ := o
  simp only at h2 h3 hk
  subst h2 h3
  have c1 := known_any p 129
  rw [hk] at c1
  have e : rightP p (129, [x, y, z, w]) = true := by unfold rightP; rw [hk, if_neg h1]; simp
  have qf : List.flatMap PV.cells (bytesOf [x, y, z, w]) = [.int .u8 (x.toNat : Int), .int .u8 (y.toNat : Int), .int .u8 (z.toNat : Int), .int .u8 (w.toNat : Int)] := rfl
  refine ⟨cellsA (fun j => match j with | 8 => true | 12 => m2 | 13 => m2 | 14 => m2 | 15 => m2 | j => f j) (updA p a (129, [x, y, z, w])), ?_, fun _ => (by unfold updF; rw [if_neg h1, if_neg (show ¬ (129 : Int) = 2 by decide), if_neg (show ¬ (129 : Int) = 3 by decide), if_pos rfl]), rfl⟩
  rw [e]
  unfold updA
  rw [if_neg h1, if_neg (show ¬ (129 : Int) = 2 by decide), if_neg (show ¬ (129 : Int) = 3 by decide), if_pos rfl]
  unfold optV cellsA
  refine Runs.of Try.func89 rfl (by simp [Try.ntmps89]) ?_
  simp (maxSteps := 400000) -dsimp -implicitDefEqProofs (disch := first | exact TrueB.mk rfl | omega) only [go_sem, Nat.reduceMul, Nat.reduceAdd, Nat.reduceLT, Nat.reduceLeDiff, Nat.reducePow, Nat.reduceEqDiff, ↓reduceIte, reduceCtorEq, Int.reduceToNat, Try.ntmps89]
  first | refine wpAct_call0 (c1 _ _) rfl rfl rfl rfl rfl rfl rfl rfl ?_ | done
  have qi : ((129 : Int) - 129).toNat = 0 := rfl
  simp (maxSteps := 400000) -dsimp -implicitDefEqProofs (disch := first | exact TrueB.mk rfl | omega) only [go_sem, Nat.reduceMul, Nat.reduceAdd, Nat.reduceLT, Nat.reduceLeDiff, Nat.reducePow, Nat.reduceEqDiff, ↓reduceIte, reduceCtorEq, Int.reduceToNat, qf, qi]
  first | exact rfl | done

set_option maxHeartbeats 8000000 in
theorem read_d1 {p : Int} {o : Opt} {x y z w : UInt8} (hk : knownP p o.1 = true) (h1 : ¬ p = 32855) (h2 : o.1 = 130) (h3 : o.2 = [x, y, z, w]) (f : Nat → Bool) (a : Adr) (m m2 : Bool) : readS p o f a m m2 := by
  obtain ⟨t, b⟩ := o
  simp only at h2 h3 hk
  subst h2 h3
  have c1 := known_any p 130
  rw [hk] at c1
  have e : rightP p (130, [x, y, z, w]) = true := by unfold rightP; rw [hk, if_neg h1]; simp
  have qf : List.flatMap PV.cells (bytesOf [x, y, z, w]) = [.int .u8 (x.toNat : Int), .int .u8 (y.toNat : Int), .int .u8 (z.toNat : Int), .int .u8 (w.toNat : Int)] := rfl
  refine ⟨cellsA (fun j => match j with | 9 => true | 16 => m2 | 17 => m2 | 18 => m2 | 19 => m2 | j => f j) (updA p a (130, [x, y, z, w])), ?_, fun _ => (by unfold updF; rw [if_neg h1, if_neg (show ¬ (130 : Int) = 2 by decide), if_neg (show ¬ (130 : Int) = 3 by decide), if_neg (show ¬ (130 : Int) = 129 by decide), if_pos rfl]), rfl⟩
  rw [e]
  unfold updA
  rw [if_neg h1, if_neg (show ¬ (130 : Int) = 2 by decide), if_neg (show ¬ (130 : Int) = 3 by decide), if_neg (show ¬ (130 : Int) = 129 by decide), if_pos rfl]
  unfold optV cellsA
  refine Runs.of Try.func89 rfl (by simp [Try.ntmps89]) ?_
  simp (maxSteps := 400000) -dsimp -implicitDefEqProofs (disch := first | exact TrueB.mk rfl | omega) only [go_sem, Nat.reduceMul, Nat.reduceAdd, Nat.reduceLT, Nat.reduceLeDiff, Nat.reducePow, Nat.reduceEqDiff, ↓reduceIte, reduceCtorEq, Int.reduceToNat, Try.ntmps89]
  first | refine wpAct_call0 (c1 _ _) rfl rfl rfl rfl rfl rfl rfl rfl ?_ | done
  have qi : ((130 : Int) - 129).toNat = 1 := rfl
  simp (maxSteps := 400000) -dsimp -implicitDefEqProofs (disch := first | exact TrueB.mk rfl | omega) only [go_sem, Nat.reduceMul, Nat.reduceAdd, Nat.reduceLT, Nat.reduceLeDiff, Nat.reducePow, Nat.reduceEqDiff, ↓reduceIte, reduceCtorEq, Int.reduceToNat, qf, qi]
  first | exact rfl | done

set_option maxHeartbeats 8000000 in
theorem read_d2 {p : Int} {o : Opt} {x y z w : UInt8} (hk : knownP p o.1 = true) (h1 : ¬ p = 32855) (h2 : o.1 = 131) (h3 : o.2 = [x, y, z, w]) (f : Nat → Bool) (a : Adr) (m m2 : Bool) : readS p o f a m m2 := by
  obtain ⟨t, b⟩ := o
  simp only at h2 h3 hk
  subst h2 h3
  have c1 := known_any p 131
  rw [hk] at c1
  have e : rightP p (131, [x, y, z, w]) = true := by unfold rightP; rw [hk, if_neg h1]; simp
  have qf : List.flatMap PV.cells (bytesOf [x, y, z, w]) = [.int .u8 (x.toNat : Int), .int .u8 (y.toNat : Int), .int .u8 (z.toNat : Int), .int .u8 (w.toNat : Int)] := rfl
  refine ⟨cellsA (fun j => match j with | 10 => true | 20 => m2 | 21 => m2 | 22 => m2 | 23 => m2 | j => f j) (updA p a (131, [x, y, z, w])), ?_, fun _ => (by unfold updF; rw [if_neg h1, if_neg (show ¬ (131 : Int) = 2 by decide), if_neg (show ¬ (131 : Int) = 3 by decide), if_neg (show ¬ (131 : Int) = 129 by decide), if_neg (show ¬ (131 : Int) = 130 by decide), if_pos rfl]), rfl⟩
  rw [e]
  unfold updA
  rw [if_neg h1, if_neg (show ¬ (131 : Int) = 2 by decide), if_neg (show ¬ (131 : Int) = 3 by decide), if_neg (show ¬ (131 : Int) = 129 by decide), if_neg (show ¬ (131 : Int) = 130 by decide), if_pos rfl]
  unfold optV cellsA
  refine Runs.of Try.func89 rfl (by simp [Try.ntmps89]) ?_
  simp (maxSteps := 400000) -dsimp -implicitDefEqProofs (disch := first | exact TrueB.mk rfl | omega) only [go_sem, Nat.reduceMul, Nat.reduceAdd, Nat.reduceLT, Nat.reduceLeDiff, Nat.reducePow, Nat.reduceEqDiff, ↓reduceIte, reduceCtorEq, Int.reduceToNat, Try.ntmps89]
  first | refine wpAct_call0 (c1 _ _) rfl rfl rfl rfl rfl rfl rfl rfl ?_ | done
  have qi : ((131 : Int) - 129).toNat = 2 := rfl
  simp (maxSteps := 400000) -dsimp -implicitDefEqProofs (disch := first | exact TrueB.mk rfl | omega) only [go_sem, Nat.reduceMul, Nat.reduceAdd, Nat.reduceLT, Nat.reduceLeDiff, Nat.reducePow, Nat.reduceEqDiff, ↓reduceIte, reduceCtorEq, Int.reduceToNat, qf, qi]
  first | exact rfl | done

set_option maxHeartbeats 8000000 in
theorem read_d3 {p : Int} {o : Opt} {x y z w : UInt8} (hk : knownP p o.1 = true) (h1 : ¬ p = 32855) (h2 : o.1 = 132) (h3 : o.2 = [x, y, z, w]) (f : Nat → Bool) (a : Adr) (m m2 : Bool) : readS p o f a m m2 := by
  obtain ⟨t, b⟩ := o
  simp only at h2 h3 hk
  subst h2 h3
  have c1 := known_any p 132
  rw [hk] at c1
  have e : rightP p (132, [x, y, z, w]) = true := by unfold rightP; rw [hk, if_neg h1]; simp
  have qf : List.flatMap PV.cells (bytesOf [x, y, z, w]) = [.int .u8 (x.toNat : Int), .int .u8 (y.toNat : Int), .int .u8 (z.toNat : Int), .int .u8 (w.toNat : Int)] := rfl
  refine ⟨cellsA (fun j => match j with | 11 => true | 24 => m2 | 25 => m2 | 26 => m2 | 27 => m2 | j => f j) (updA p a (132, [x, y, z, w])), ?_, fun _ => (by unfold updF; rw [if_neg h1, if_neg (show ¬ (132 : Int) = 2 by decide), if_neg (show ¬ (132 : Int) = 3 by decide), if_neg (show ¬ (132 : Int) = 129 by decide), if_neg (show ¬ (132 : Int) = 130 by decide), if_neg (show ¬ (132 : Int) = 131 by decide)]), rfl⟩
  rw [e]
  unfold updA
  rw [if_neg h1, if_neg (show ¬ (132 : Int) = 2 by decide), if_neg (show ¬ (132 : Int) = 3 by decide), if_neg (show ¬ (132 : Int) = 129 by decide), if_neg (show ¬ (132 : Int) = 130 by decide), if_neg (show ¬ (132 : Int) = 131 by decide)]
  unfold optV cellsA
  refine Runs.of Try.func89 rfl (by simp [Try.ntmps89]) ?_
  simp (maxSteps := 400000) -dsimp -implicitDefEqProofs (disch := first | exact TrueB.mk rfl | omega) only [go_sem, Nat.reduceMul, Nat.reduceAdd, Nat.reduceLT, Nat.reduceLeDiff, Nat.reducePow, Nat.reduceEqDiff, ↓reduceIte, reduceCtorEq, Int.reduceToNat, Try.ntmps89]
  first | refine wpAct_call0 (c1 _ _) rfl rfl rfl rfl rfl rfl rfl rfl ?_ | done
  have qi : ((132 : Int) - 129).toNat = 3 := rfl
  simp (maxSteps := 400000) -dsimp -implicitDefEqProofs (disch := first | exact TrueB.mk rfl | omega) only [go_sem, Nat.reduceMul, Nat.reduceAdd, Nat.reduceLT, Nat.reduceLeDiff, Nat.reducePow, Nat.reduceEqDiff, ↓reduceIte, reduceCtorEq, Int.reduceToNat, qf, qi]
  first | exact rfl | done

theorem allCell_bytesOf (l : List UInt8) : allCell (bytesOf l) = true := by
  induction l with
  | nil => rfl
  | cons c r ih => exact ih

end Go.Proofs.Ytpgklagjjimbhaa
