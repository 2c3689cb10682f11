/- YtpgklagjjimbhaaAJ: addresses: the list that tells them. No claim. -/
import Derived.Test.YtpgklagjjimbhaaAI
set_option linter.unusedVariables false
set_option linter.unusedSimpArgs false
set_option maxRecDepth 100000
namespace Go.Proofs.Ytpgklagjjimbhaa
open Go Go.Proofs.Ytpgklagjjimbhaa.V

def optB (b : Bool) (t : Int) (d : List UInt8) : List Opt := if b then [(t, d)] else []
def l4 (w : W4) : List UInt8 := [w.a, w.b, w.c, w.d]
def l8 (w : W8) : List UInt8 := [w.a, w.b, w.c, w.d, w.e, w.f, w.g, w.h]
def outS (b k : Nat) (o : List Opt) : Store := [(b, .box [.row k o.length]), (k, .row false (zOf o) (o.length - 1) (optsV o))]

set_option maxHeartbeats 8000000 in
theorem put1_any (is : Bool) (t : Int) (d : List UInt8) (o : List Opt) (ho : o.length ≤ 100) (m m' : Bool) : Runs Try.prog env 90 [.pure m (.bool is), .pure m' (.int .i64 t), .pure false (.sl (bytesOf d)), .ptr 0 0] (outS 0 1 o) (.tuple []) (outS 0 1 (o ++ optB is t d)) := by
  unfold outS optB
  have hz := zOf_or o
  refine Runs.of Try.func90 rfl (by simp [Try.ntmps90]) ?_
  cases is with
  | false =>
    simp (maxSteps := 400000) -dsimp -implicitDefEqProofs (disch := first | exact TrueB.mk rfl | omega) only [go_sem, Nat.reduceMul, Nat.reduceAdd, Nat.reduceLT, Nat.reduceLeDiff, Nat.reducePow, Nat.reduceEqDiff, ↓reduceIte, reduceCtorEq, Int.reduceToNat, Try.ntmps90]
    first | exact rfl | done
  | true =>
    simp (maxSteps := 400000) -dsimp -implicitDefEqProofs (disch := first | exact TrueB.mk rfl | omega) only [go_sem, Nat.reduceMul, Nat.reduceAdd, Nat.reduceLT, Nat.reduceLeDiff, Nat.reducePow, Nat.reduceEqDiff, ↓reduceIte, reduceCtorEq, Int.reduceToNat, Try.ntmps90, hz, opts_snoc, allScalar]
    simp only [if_true, zOf_snoc, List.length_append, List.length_cons, List.length_nil]
    first | exact rfl | done

def vjD (a : Adr) : List UInt8 := [0, 45, UInt8.ofNat a.slots.toNat, if a.vjId then 1 else 0]
def putI (a : Adr) : List Opt := optB a.hasVj 2 (vjD a) ++ optB a.hasIp 3 (l4 a.ip) ++ optB a.h0 129 (l4 a.d0) ++ optB a.h1 130 (l4 a.d1) ++ optB a.h2 131 (l4 a.d2) ++ optB a.h3 132 (l4 a.d3)
def putX (a : Adr) : List Opt := optB a.hasId 1 (l8 a.id)
def hasD (a : Adr) (i : Nat) : Bool := match i with | 0 => a.h0 | 1 => a.h1 | 2 => a.h2 | _ => a.h3
def datD (a : Adr) (i : Nat) : List UInt8 := match i with | 0 => l4 a.d0 | 1 => l4 a.d1 | 2 => l4 a.d2 | _ => l4 a.d3
def dnsO (a : Adr) (o : List Opt) : Nat → List Opt
  | 0 => o
  | i + 1 => dnsO a o i ++ optB (hasD a i) (129 + i) (datD a i)

/-- Options and a truth value are handed back. -/
theorem end_ov {P : Program} {sl : Slots} {S : Store} {m : Bool} {t1 t2 k : Nat} {out : List Opt} {b : Bool} (h1 : V.get sl t1 = some (.row k out.length)) (h2 : V.get sl t2 = some (.pure m (.bool b)))
    (hk : V.get S k = some (.row (fE out) (zOf out) (out.length - 1) (optsV out))) :
    outV P 0 [.tmp t1, .tmp t2] sl S = some (.tuple [.row 0 out.length, .pure m (.bool b)], [(0, .row (fE out) (zOf out) (out.length - 1) (optsV out))]) := by
  have hr : reach (V.get S) 256 [k] [] = [k] := by simp [reach, hk, refsO]
  have hn : norm (.bool b) = .bool b := rfl
  simp only [outV, resAll, resOne, h1, h2, back, single, leave, List.range_zero, refs, refsL, List.nil_append, List.cons_append, List.append_nil, hr, hn]
  cases out with
  | nil => simp [takeAll, idx, ren, renL, hk, renO, reset, rowOf, plainV, PV.scalar, fE, zOf, optsV, show allScalar [] = true from rfl]
  | cons o r =>
    have : allScalar (optsV (o :: r)) = false := rfl
    simp [takeAll, idx, ren, renL, hk, renO, reset, rowOf, plainV, PV.scalar, this]
/-- The same, of a row that stands no longer for new memory. -/
theorem end_of {P : Program} {sl : Slots} {S : Store} {m : Bool} {t1 t2 k : Nat} {out : List Opt} {b : Bool} (h1 : V.get sl t1 = some (.row k out.length)) (h2 : V.get sl t2 = some (.pure m (.bool b)))
    (hk : V.get S k = some (.row false (zOf out) (out.length - 1) (optsV out))) :
    outV P 0 [.tmp t1, .tmp t2] sl S = some (.tuple [.row 0 out.length, .pure m (.bool b)], [(0, .row (fE out) (zOf out) (out.length - 1) (optsV out))]) := by
  have hr : reach (V.get S) 256 [k] [] = [k] := by simp [reach, hk, refsO]
  have hn : norm (.bool b) = .bool b := rfl
  simp only [outV, resAll, resOne, h1, h2, back, single, leave, List.range_zero, refs, refsL, List.nil_append, List.cons_append, List.append_nil, hr, hn]
  cases out with
  | nil => simp [takeAll, idx, ren, renL, hk, renO, reset, rowOf, plainV, PV.scalar, fE, zOf, optsV, show allScalar [] = true from rfl]
  | cons o r =>
    have : allScalar (optsV (o :: r)) = false := rfl
    have hf : fE (o :: r) = false := rfl
    simp [takeAll, idx, ren, renL, hk, renO, reset, rowOf, plainV, PV.scalar, this, hf]
theorem newV_adr (fl : Bool) (A : Adr) (b : Bool) : newV (.tuple [.pure fl (adrV A), .pure true (.bool b)]) = true := by cases fl <;> rfl

def adrEq (x y : Adr) : Bool := decide (x.hasIp = y.hasIp) && (decide ((x.ip.a.toNat : Int) = (y.ip.a.toNat : Int)) && (decide ((x.ip.b.toNat : Int) = (y.ip.b.toNat : Int)) && (decide ((x.ip.c.toNat : Int) = (y.ip.c.toNat : Int)) && (decide ((x.ip.d.toNat : Int) = (y.ip.d.toNat : Int)) && (decide (x.hasVj = y.hasVj) && (decide (x.slots = y.slots) && (decide (x.vjId = y.vjId) && (decide (x.h0 = y.h0) && (decide (x.h1 = y.h1) && (decide (x.h2 = y.h2) && (decide (x.h3 = y.h3) && (decide ((x.d0.a.toNat : Int) = (y.d0.a.toNat : Int)) && (decide ((x.d0.b.toNat : Int) = (y.d0.b.toNat : Int)) && (decide ((x.d0.c.toNat : Int) = (y.d0.c.toNat : Int)) && (decide ((x.d0.d.toNat : Int) = (y.d0.d.toNat : Int)) && (decide ((x.d1.a.toNat : Int) = (y.d1.a.toNat : Int)) && (decide ((x.d1.b.toNat : Int) = (y.d1.b.toNat : Int)) && (decide ((x.d1.c.toNat : Int) = (y.d1.c.toNat : Int)) && (decide ((x.d1.d.toNat : Int) = (y.d1.d.toNat : Int)) && (decide ((x.d2.a.toNat : Int) = (y.d2.a.toNat : Int)) && (decide ((x.d2.b.toNat : Int) = (y.d2.b.toNat : Int)) && (decide ((x.d2.c.toNat : Int) = (y.d2.c.toNat : Int)) && (decide ((x.d2.d.toNat : Int) = (y.d2.d.toNat : Int)) && (decide ((x.d3.a.toNat : Int) = (y.d3.a.toNat : Int)) && (decide ((x.d3.b.toNat : Int) = (y.d3.b.toNat : Int)) && (decide ((x.d3.c.toNat : Int) = (y.d3.c.toNat : Int)) && (decide ((x.d3.d.toNat : Int) = (y.d3.d.toNat : Int)) && (decide (x.hasId = y.hasId) && (decide ((x.id.a.toNat : Int) = (y.id.a.toNat : Int)) && (decide ((x.id.b.toNat : Int) = (y.id.b.toNat : Int)) && (decide ((x.id.c.toNat : Int) = (y.id.c.toNat : Int)) && (decide ((x.id.d.toNat : Int) = (y.id.d.toNat : Int)) && (decide ((x.id.e.toNat : Int) = (y.id.e.toNat : Int)) && (decide ((x.id.f.toNat : Int) = (y.id.f.toNat : Int)) && (decide ((x.id.g.toNat : Int) = (y.id.g.toNat : Int)) && (decide ((x.id.h.toNat : Int) = (y.id.h.toNat : Int))))))))))))))))))))))))))))))))))))))
theorem adrEq_fold (x y : Adr) : (decide (x.hasIp = y.hasIp) && (decide ((x.ip.a.toNat : Int) = (y.ip.a.toNat : Int)) && (decide ((x.ip.b.toNat : Int) = (y.ip.b.toNat : Int)) && (decide ((x.ip.c.toNat : Int) = (y.ip.c.toNat : Int)) && (decide ((x.ip.d.toNat : Int) = (y.ip.d.toNat : Int)) && (decide (x.hasVj = y.hasVj) && (decide (x.slots = y.slots) && (decide (x.vjId = y.vjId) && (decide (x.h0 = y.h0) && (decide (x.h1 = y.h1) && (decide (x.h2 = y.h2) && (decide (x.h3 = y.h3) && (decide ((x.d0.a.toNat : Int) = (y.d0.a.toNat : Int)) && (decide ((x.d0.b.toNat : Int) = (y.d0.b.toNat : Int)) && (decide ((x.d0.c.toNat : Int) = (y.d0.c.toNat : Int)) && (decide ((x.d0.d.toNat : Int) = (y.d0.d.toNat : Int)) && (decide ((x.d1.a.toNat : Int) = (y.d1.a.toNat : Int)) && (decide ((x.d1.b.toNat : Int) = (y.d1.b.toNat : Int)) && (decide ((x.d1.c.toNat : Int) = (y.d1.c.toNat : Int)) && (decide ((x.d1.d.toNat : Int) = (y.d1.d.toNat : Int)) && (decide ((x.d2.a.toNat : Int) = (y.d2.a.toNat : Int)) && (decide ((x.d2.b.toNat : Int) = (y.d2.b.toNat : Int)) && (decide ((x.d2.c.toNat : Int) = (y.d2.c.toNat : Int)) && (decide ((x.d2.d.toNat : Int) = (y.d2.d.toNat : Int)) && (decide ((x.d3.a.toNat : Int) = (y.d3.a.toNat : Int)) && (decide ((x.d3.b.toNat : Int) = (y.d3.b.toNat : Int)) && (decide ((x.d3.c.toNat : Int) = (y.d3.c.toNat : Int)) && (decide ((x.d3.d.toNat : Int) = (y.d3.d.toNat : Int)) && (decide (x.hasId = y.hasId) && (decide ((x.id.a.toNat : Int) = (y.id.a.toNat : Int)) && (decide ((x.id.b.toNat : Int) = (y.id.b.toNat : Int)) && (decide ((x.id.c.toNat : Int) = (y.id.c.toNat : Int)) && (decide ((x.id.d.toNat : Int) = (y.id.d.toNat : Int)) && (decide ((x.id.e.toNat : Int) = (y.id.e.toNat : Int)) && (decide ((x.id.f.toNat : Int) = (y.id.f.toNat : Int)) && (decide ((x.id.g.toNat : Int) = (y.id.g.toNat : Int)) && (decide ((x.id.h.toNat : Int) = (y.id.h.toNat : Int))))))))))))))))))))))))))))))))))))))) = adrEq x y := rfl
theorem adrEq_iff (x y : Adr) : adrEq x y = true ↔ x = y := by
  constructor
  · intro h
    unfold adrEq at h
    simp only [Bool.and_eq_true, decide_eq_true_eq, Int.natCast_inj, UInt8.toNat_inj] at h
    obtain ⟨e0, e1, e2, e3, e4, e5, e6, e7, e8, e9, e10, e11, e12, e13, e14, e15, e16, e17, e18, e19, e20, e21, e22, e23, e24, e25, e26, e27, e28, e29, e30, e31, e32, e33, e34, e35, e36⟩ := h
    obtain ⟨x0, ⟨x1, x2, x3, x4⟩, x5, x6, x7, x8, x9, x10, x11, ⟨x12, x13, x14, x15⟩, ⟨x16, x17, x18, x19⟩, ⟨x20, x21, x22, x23⟩, ⟨x24, x25, x26, x27⟩, x28, ⟨x29, x30, x31, x32, x33, x34, x35, x36⟩⟩ := x
    obtain ⟨y0, ⟨y1, y2, y3, y4⟩, y5, y6, y7, y8, y9, y10, y11, ⟨y12, y13, y14, y15⟩, ⟨y16, y17, y18, y19⟩, ⟨y20, y21, y22, y23⟩, ⟨y24, y25, y26, y27⟩, y28, ⟨y29, y30, y31, y32, y33, y34, y35, y36⟩⟩ := y
    simp only at e0 e1 e2 e3 e4 e5 e6 e7 e8 e9 e10 e11 e12 e13 e14 e15 e16 e17 e18 e19 e20 e21 e22 e23 e24 e25 e26 e27 e28 e29 e30 e31 e32 e33 e34 e35 e36
    subst e0 e1 e2 e3 e4 e5 e6 e7 e8 e9 e10 e11 e12 e13 e14 e15 e16 e17 e18 e19 e20 e21 e22 e23 e24 e25 e26 e27 e28 e29 e30 e31 e32 e33 e34 e35 e36
    rfl
  · rintro rfl
    simp [adrEq]
def putOk (p : Int) (a : Adr) (out : List Opt) : Bool := (readA p out).2 && adrEq (readA p out).1 a && (decide (p = 32801) || decide (p = 32855))
def putR (p : Int) (a : Adr) (out : List Opt) : List Opt := if putOk p a out = true then out else []
def putS (p : Int) (a : Adr) (out : List Opt) (m : Bool) : Prop := Runs Try.prog env 61 [.pure m (.int .i64 p), .pure false (adrV a)] [] (.tuple [.row 0 (putR p a out).length, .pure true (.bool (putOk p a out))]) [(0, .row (fE (putR p a out)) (zOf (putR p a out)) ((putR p a out).length - 1) (optsV (putR p a out)))]

set_option maxHeartbeats 16000000 in
theorem put_no {p : Int} {a : Adr} (hx : ¬ p = 32855) (h1 : ¬ p = 32801) (m : Bool) : putS p a ([]) m := by
  have cR := fun m m' => readA_any p ([]) (by simp) m m'
  unfold putS putR putOk
  generalize readA p ([]) = R at *
  generalize flR p ([]) = fl at *
  have hfold := adrEq_fold R.1 a
  unfold adrV at *
  rw [decide_eq_false hx, decide_eq_false h1]
  simp only [Bool.or_false, Bool.and_false, Bool.false_eq_true, if_false]
  refine Runs.of Try.func61 rfl (by simp [Try.ntmps61]) ?_
  simp (maxSteps := 400000) -dsimp -implicitDefEqProofs (disch := first | exact TrueB.mk rfl | omega) only [go_sem, Nat.reduceMul, Nat.reduceAdd, Nat.reduceLT, Nat.reduceLeDiff, Nat.reducePow, Nat.reduceEqDiff, ↓reduceIte, reduceCtorEq, Int.reduceToNat, Try.ntmps61]
  refine wpAct_callF (cR _ _) rfl rfl rfl rfl (argV_p rfl (argV_r rfl (optsV_length ([])).symm argV_nil)) rfl (newV_adr fl R.1 R.2) rfl rfl ?_
  cases h2 : R.2 with
  | false =>
    simp (maxSteps := 400000) -dsimp -implicitDefEqProofs (disch := first | exact TrueB.mk rfl | omega) only [go_sem, Nat.reduceMul, Nat.reduceAdd, Nat.reduceLT, Nat.reduceLeDiff, Nat.reducePow, Nat.reduceEqDiff, ↓reduceIte, reduceCtorEq, Int.reduceToNat, h2]
    first | exact end_ov (out := []) rfl rfl rfl | done
  | true =>
  cases h3 : adrEq R.1 a with
  | false =>
    simp (maxSteps := 400000) -dsimp -implicitDefEqProofs (disch := first | exact TrueB.mk rfl | omega) only [go_sem, Nat.reduceMul, Nat.reduceAdd, Nat.reduceLT, Nat.reduceLeDiff, Nat.reducePow, Nat.reduceEqDiff, ↓reduceIte, reduceCtorEq, Int.reduceToNat, h2, hfold, h3]
    first | exact end_ov (out := []) rfl rfl rfl | done
  | true =>
  simp (maxSteps := 400000) -dsimp -implicitDefEqProofs (disch := first | exact TrueB.mk rfl | omega) only [go_sem, Nat.reduceMul, Nat.reduceAdd, Nat.reduceLT, Nat.reduceLeDiff, Nat.reducePow, Nat.reduceEqDiff, ↓reduceIte, reduceCtorEq, Int.reduceToNat, h2, hfold, h3]
  first | exact end_ov (out := []) rfl rfl rfl | done
end Go.Proofs.Ytpgklagjjimbhaa
