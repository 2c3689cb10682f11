/- YtpgklagjjimbhaaAM: addresses: may there be a list; by the document. No claim. -/
import Derived.Test.YtpgklagjjimbhaaAL
set_option linter.unusedVariables false
set_option linter.unusedSimpArgs false
set_option maxRecDepth 100000
namespace Go.Proofs.Ytpgklagjjimbhaa
open Go Go.Proofs.Ytpgklagjjimbhaa.V
def w4z (w : W4) : Bool := decide (w.a.toNat = 0) && (decide (w.b.toNat = 0) && (decide (w.c.toNat = 0) && decide (w.d.toNat = 0)))
def w8z (w : W8) : Bool := decide (w.a.toNat = 0) && (decide (w.b.toNat = 0) && (decide (w.c.toNat = 0) && (decide (w.d.toNat = 0) && (decide (w.e.toNat = 0) && (decide (w.f.toNat = 0) && (decide (w.g.toNat = 0) && (decide (w.h.toNat = 0))))))))
def sixZ (a : Adr) : Bool := !a.hasIp && (decide (a.ip.a.toNat = 0) && (decide (a.ip.b.toNat = 0) && (decide (a.ip.c.toNat = 0) && (decide (a.ip.d.toNat = 0) && (!a.hasVj && (decide (a.slots = 0) && (!a.vjId && (!a.h0 && (!a.h1 && (!a.h2 && (!a.h3 && (decide (a.d0.a.toNat = 0) && (decide (a.d0.b.toNat = 0) && (decide (a.d0.c.toNat = 0) && (decide (a.d0.d.toNat = 0) && (decide (a.d1.a.toNat = 0) && (decide (a.d1.b.toNat = 0) && (decide (a.d1.c.toNat = 0) && (decide (a.d1.d.toNat = 0) && (decide (a.d2.a.toNat = 0) && (decide (a.d2.b.toNat = 0) && (decide (a.d2.c.toNat = 0) && (decide (a.d2.d.toNat = 0) && (decide (a.d3.a.toNat = 0) && (decide (a.d3.b.toNat = 0) && (decide (a.d3.c.toNat = 0) && (decide (a.d3.d.toNat = 0))))))))))))))))))))))))))))
theorem w4z_fold (w : W4) : (decide (w.a.toNat = 0) && (decide (w.b.toNat = 0) && (decide (w.c.toNat = 0) && decide (w.d.toNat = 0)))) = w4z w := rfl
theorem w8z_fold (w : W8) : (decide (w.a.toNat = 0) && (decide (w.b.toNat = 0) && (decide (w.c.toNat = 0) && (decide (w.d.toNat = 0) && (decide (w.e.toNat = 0) && (decide (w.f.toNat = 0) && (decide (w.g.toNat = 0) && (decide (w.h.toNat = 0))))))))) = w8z w := rfl
theorem sixZ_fold (a : Adr) : (!a.hasIp && (decide (a.ip.a.toNat = 0) && (decide (a.ip.b.toNat = 0) && (decide (a.ip.c.toNat = 0) && (decide (a.ip.d.toNat = 0) && (!a.hasVj && (decide (a.slots = 0) && (!a.vjId && (!a.h0 && (!a.h1 && (!a.h2 && (!a.h3 && (decide (a.d0.a.toNat = 0) && (decide (a.d0.b.toNat = 0) && (decide (a.d0.c.toNat = 0) && (decide (a.d0.d.toNat = 0) && (decide (a.d1.a.toNat = 0) && (decide (a.d1.b.toNat = 0) && (decide (a.d1.c.toNat = 0) && (decide (a.d1.d.toNat = 0) && (decide (a.d2.a.toNat = 0) && (decide (a.d2.b.toNat = 0) && (decide (a.d2.c.toNat = 0) && (decide (a.d2.d.toNat = 0) && (decide (a.d3.a.toNat = 0) && (decide (a.d3.b.toNat = 0) && (decide (a.d3.c.toNat = 0) && (decide (a.d3.d.toNat = 0))))))))))))))))))))))))))))) = sixZ a := rfl
def mayI (a : Adr) : Bool := !(a.hasId || !w8z a.id) && !((!a.hasIp && !w4z a.ip) || (!a.hasVj && (decide (¬ a.slots = 0) || a.vjId)) || decide (a.slots < 0) || decide (255 < a.slots)) && !(!a.h0 && !w4z a.d0) && !(!a.h1 && !w4z a.d1) && !(!a.h2 && !w4z a.d2) && !(!a.h3 && !w4z a.d3)
def mayA (p : Int) (a : Adr) : Bool := if p = 32855 then sixZ a && (a.hasId == !w8z a.id) else decide (p = 32801) && mayI a

set_option maxHeartbeats 16000000 in
theorem may_six (a : Adr) (m : Bool) : Runs Try.prog env 62 [.pure m (.int .i64 32855), .pure false (adrV a)] [] (.pure true (.bool (sixZ a && (a.hasId == !w8z a.id)))) [] := by
  have f1 := w8z_fold a.id
  have f2 := sixZ_fold a
  unfold adrV
  refine Runs.of Try.func62 rfl (by simp [Try.ntmps62]) ?_
  simp (maxSteps := 400000) -dsimp -implicitDefEqProofs (disch := first | exact TrueB.mk rfl | omega) only [go_sem, Nat.reduceMul, Nat.reduceAdd, Nat.reduceLT, Nat.reduceLeDiff, Nat.reducePow, Nat.reduceEqDiff, ↓reduceIte, reduceCtorEq, Int.reduceToNat, Try.ntmps62]
  cases h : sixZ a with
  | false =>
    simp (maxSteps := 400000) -dsimp -implicitDefEqProofs (disch := first | exact TrueB.mk rfl | omega) only [go_sem, Nat.reduceMul, Nat.reduceAdd, Nat.reduceLT, Nat.reduceLeDiff, Nat.reducePow, Nat.reduceEqDiff, ↓reduceIte, reduceCtorEq, Int.reduceToNat, f2, h]
    first | exact end_bool rfl rfl | done
  | true =>
    simp (maxSteps := 400000) -dsimp -implicitDefEqProofs (disch := first | exact TrueB.mk rfl | omega) only [go_sem, Nat.reduceMul, Nat.reduceAdd, Nat.reduceLT, Nat.reduceLeDiff, Nat.reducePow, Nat.reduceEqDiff, ↓reduceIte, reduceCtorEq, Int.reduceToNat, f1, f2, h]
    first | exact end_bool rfl (by simp) | done
def okD (a : Adr) (i : Nat) : Prop := match i with
  | 0 => (a.h0 || w4z a.d0) = true
  | 1 => (a.h1 || w4z a.d1) = true
  | 2 => (a.h2 || w4z a.d2) = true
  | _ => (a.h3 || w4z a.d3) = true
def okTo (a : Adr) (i : Nat) : Prop := ∀ j, j < i → okD a j
theorem okTo_0 (a : Adr) : okTo a 0 := fun j h => by omega
theorem okTo_s {a : Adr} {i : Nat} (h : okTo a i) (e : okD a i) : okTo a (i + 1) := fun j hj => by
  by_cases hji : j = i
  · subst hji; exact e
  · exact h j (by omega)
theorem okTo_1 {a : Adr} (h : okTo a 0) (e : (a.h0 || w4z a.d0) = true) : okTo a 1 := okTo_s h e
theorem okTo_2 {a : Adr} (h : okTo a 1) (e : (a.h1 || w4z a.d1) = true) : okTo a 2 := okTo_s h e
theorem okTo_3 {a : Adr} (h : okTo a 2) (e : (a.h2 || w4z a.d2) = true) : okTo a 3 := okTo_s h e
theorem okTo_4 {a : Adr} (h : okTo a 3) (e : (a.h3 || w4z a.d3) = true) : okTo a 4 := okTo_s h e

set_option maxHeartbeats 64000000 in
theorem may_ipc (a : Adr) (m : Bool) : Runs Try.prog env 62 [.pure m (.int .i64 32801), .pure false (adrV a)] [] (.pure true (.bool (mayI a))) [] := by
  have f1 := w8z_fold a.id
  have f3 := w4z_fold a.ip
  have f40 := w4z_fold a.d0
  have f41 := w4z_fold a.d1
  have f42 := w4z_fold a.d2
  have f43 := w4z_fold a.d3
  unfold adrV
  refine Runs.of Try.func62 rfl (by simp [Try.ntmps62]) ?_
  cases hI : a.hasId with
  | true =>
    simp (maxSteps := 400000) -dsimp -implicitDefEqProofs (disch := first | exact TrueB.mk rfl | omega) only [go_sem, Nat.reduceMul, Nat.reduceAdd, Nat.reduceLT, Nat.reduceLeDiff, Nat.reducePow, Nat.reduceEqDiff, ↓reduceIte, reduceCtorEq, Int.reduceToNat, Try.ntmps62, f1, f3, f40, f41, f42, f43, hI]
    first | exact end_bool rfl (by simp [mayI, hI]) | done
  | false =>
  cases hw : w8z a.id with
  | false =>
    simp (maxSteps := 400000) -dsimp -implicitDefEqProofs (disch := first | exact TrueB.mk rfl | omega) only [go_sem, Nat.reduceMul, Nat.reduceAdd, Nat.reduceLT, Nat.reduceLeDiff, Nat.reducePow, Nat.reduceEqDiff, ↓reduceIte, reduceCtorEq, Int.reduceToNat, Try.ntmps62, f1, f3, f40, f41, f42, f43, hI, hw]
    first | exact end_bool rfl (by simp [mayI, hI, hw]) | done
  | true =>
  cases hip : a.hasIp with
  | true =>
    cases hv : a.hasVj with
    | true =>
      rcases Classical.em (0 ≤ a.slots) with h5 | h5
      rotate_left
      · have h5' : a.slots < 0 := by omega
        simp (maxSteps := 400000) -dsimp -implicitDefEqProofs (disch := first | exact TrueB.mk rfl | omega) only [go_sem, Nat.reduceMul, Nat.reduceAdd, Nat.reduceLT, Nat.reduceLeDiff, Nat.reducePow, Nat.reduceEqDiff, ↓reduceIte, reduceCtorEq, Int.reduceToNat, Try.ntmps62, f1, f3, f40, f41, f42, f43, hI, hw, hip, hv, h5']
        first | exact end_bool rfl (by simp [mayI, hI, hw, hip, hv, h5']) | done
      rcases Classical.em (a.slots ≤ 255) with h6 | h6
      rotate_left
      · have h6' : 255 < a.slots := by omega
        simp (maxSteps := 400000) -dsimp -implicitDefEqProofs (disch := first | exact TrueB.mk rfl | omega) only [go_sem, Nat.reduceMul, Nat.reduceAdd, Nat.reduceLT, Nat.reduceLeDiff, Nat.reducePow, Nat.reduceEqDiff, ↓reduceIte, reduceCtorEq, Int.reduceToNat, Try.ntmps62, f1, f3, f40, f41, f42, f43, hI, hw, hip, hv, h6']
        first | exact end_bool rfl (by simp [mayI, hI, hw, hip, hv, h6']) | done
      have h5' : ¬ a.slots < 0 := by omega
      have h6' : ¬ 255 < a.slots := by omega
      simp (maxSteps := 400000) -dsimp -implicitDefEqProofs (disch := first | exact TrueB.mk rfl | omega) only [go_sem, Nat.reduceMul, Nat.reduceAdd, Nat.reduceLT, Nat.reduceLeDiff, Nat.reducePow, Nat.reduceEqDiff, ↓reduceIte, reduceCtorEq, Int.reduceToNat, Try.ntmps62, f1, f3, f40, f41, f42, f43, hI, hw, hip, hv, h5', h6']
      refine wpLoop_ind (α := Nat)
        (fun i => ⟨[(3, .ptr 1392 0), (6, .pure true (.int .i64 i))], [(1392, .box [.pure false (.bool true), .pure false (.int .u8 (a.ip.a.toNat : Int)), .pure false (.int .u8 (a.ip.b.toNat : Int)), .pure false (.int .u8 (a.ip.c.toNat : Int)), .pure false (.int .u8 (a.ip.d.toNat : Int)), .pure false (.bool true), .pure false (.int .i64 a.slots), .pure false (.bool a.vjId), .pure false (.bool a.h0), .pure false (.bool a.h1), .pure false (.bool a.h2), .pure false (.bool a.h3), .pure false (.int .u8 (a.d0.a.toNat : Int)), .pure false (.int .u8 (a.d0.b.toNat : Int)), .pure false (.int .u8 (a.d0.c.toNat : Int)), .pure false (.int .u8 (a.d0.d.toNat : Int)), .pure false (.int .u8 (a.d1.a.toNat : Int)), .pure false (.int .u8 (a.d1.b.toNat : Int)), .pure false (.int .u8 (a.d1.c.toNat : Int)), .pure false (.int .u8 (a.d1.d.toNat : Int)), .pure false (.int .u8 (a.d2.a.toNat : Int)), .pure false (.int .u8 (a.d2.b.toNat : Int)), .pure false (.int .u8 (a.d2.c.toNat : Int)), .pure false (.int .u8 (a.d2.d.toNat : Int)), .pure false (.int .u8 (a.d3.a.toNat : Int)), .pure false (.int .u8 (a.d3.b.toNat : Int)), .pure false (.int .u8 (a.d3.c.toNat : Int)), .pure false (.int .u8 (a.d3.d.toNat : Int)), .pure false (.bool false), .pure false (.int .u8 (a.id.a.toNat : Int)), .pure false (.int .u8 (a.id.b.toNat : Int)), .pure false (.int .u8 (a.id.c.toNat : Int)), .pure false (.int .u8 (a.id.d.toNat : Int)), .pure false (.int .u8 (a.id.e.toNat : Int)), .pure false (.int .u8 (a.id.f.toNat : Int)), .pure false (.int .u8 (a.id.g.toNat : Int)), .pure false (.int .u8 (a.id.h.toNat : Int))])]⟩)
        (fun i => i ≤ 4 ∧ okTo a i) (fun i => 4 - i) ?_ 0 ⟨by omega, okTo_0 a⟩ rfl
      rintro i ⟨hi, ho⟩
      have hii : i = 0 ∨ i = 1 ∨ i = 2 ∨ i = 3 ∨ i = 4 := by omega
      rcases hii with rfl | rfl | rfl | rfl | rfl
      · cases g1 : a.h0 with
        | true =>
          simp (maxSteps := 400000) -dsimp -implicitDefEqProofs (disch := first | exact TrueB.mk rfl | omega) only [go_sem, Nat.reduceMul, Nat.reduceAdd, Nat.reduceLT, Nat.reduceLeDiff, Nat.reducePow, Nat.reduceEqDiff, ↓reduceIte, reduceCtorEq, Int.reduceToNat, g1]
          first | exact again_mk ⟨1, ⟨by omega, okTo_1 ho (by simp [g1])⟩, by omega, by simp only [g1]; rfl⟩ | done
        | false =>
        cases g2 : w4z a.d0 with
        | true =>
          simp (maxSteps := 400000) -dsimp -implicitDefEqProofs (disch := first | exact TrueB.mk rfl | omega) only [go_sem, Nat.reduceMul, Nat.reduceAdd, Nat.reduceLT, Nat.reduceLeDiff, Nat.reducePow, Nat.reduceEqDiff, ↓reduceIte, reduceCtorEq, Int.reduceToNat, g1, g2, f1, f3, f40, f41, f42, f43]
          first | exact again_mk ⟨1, ⟨by omega, okTo_1 ho (by simp [g2])⟩, by omega, by simp only [g1]; rfl⟩ | done
        | false =>
          simp (maxSteps := 400000) -dsimp -implicitDefEqProofs (disch := first | exact TrueB.mk rfl | omega) only [go_sem, Nat.reduceMul, Nat.reduceAdd, Nat.reduceLT, Nat.reduceLeDiff, Nat.reducePow, Nat.reduceEqDiff, ↓reduceIte, reduceCtorEq, Int.reduceToNat, g1, g2, f1, f3, f40, f41, f42, f43]
          first | exact end_bool rfl (by simp [mayI, g1, g2]) | done
      · cases g1 : a.h1 with
        | true =>
          simp (maxSteps := 400000) -dsimp -implicitDefEqProofs (disch := first | exact TrueB.mk rfl | omega) only [go_sem, Nat.reduceMul, Nat.reduceAdd, Nat.reduceLT, Nat.reduceLeDiff, Nat.reducePow, Nat.reduceEqDiff, ↓reduceIte, reduceCtorEq, Int.reduceToNat, g1]
          first | exact again_mk ⟨2, ⟨by omega, okTo_2 ho (by simp [g1])⟩, by omega, by simp only [g1]; rfl⟩ | done
        | false =>
        cases g2 : w4z a.d1 with
        | true =>
          simp (maxSteps := 400000) -dsimp -implicitDefEqProofs (disch := first | exact TrueB.mk rfl | omega) only [go_sem, Nat.reduceMul, Nat.reduceAdd, Nat.reduceLT, Nat.reduceLeDiff, Nat.reducePow, Nat.reduceEqDiff, ↓reduceIte, reduceCtorEq, Int.reduceToNat, g1, g2, f1, f3, f40, f41, f42, f43]
          first | exact again_mk ⟨2, ⟨by omega, okTo_2 ho (by simp [g2])⟩, by omega, by simp only [g1]; rfl⟩ | done
        | false =>
          simp (maxSteps := 400000) -dsimp -implicitDefEqProofs (disch := first | exact TrueB.mk rfl | omega) only [go_sem, Nat.reduceMul, Nat.reduceAdd, Nat.reduceLT, Nat.reduceLeDiff, Nat.reducePow, Nat.reduceEqDiff, ↓reduceIte, reduceCtorEq, Int.reduceToNat, g1, g2, f1, f3, f40, f41, f42, f43]
          first | exact end_bool rfl (by simp [mayI, g1, g2]) | done
      · cases g1 : a.h2 with
        | true =>
          simp (maxSteps := 400000) -dsimp -implicitDefEqProofs (disch := first | exact TrueB.mk rfl | omega) only [go_sem, Nat.reduceMul, Nat.reduceAdd, Nat.reduceLT, Nat.reduceLeDiff, Nat.reducePow, Nat.reduceEqDiff, ↓reduceIte, reduceCtorEq, Int.reduceToNat, g1]
          first | exact again_mk ⟨3, ⟨by omega, okTo_3 ho (by simp [g1])⟩, by omega, by simp only [g1]; rfl⟩ | done
        | false =>
        cases g2 : w4z a.d2 with
        | true =>
          simp (maxSteps := 400000) -dsimp -implicitDefEqProofs (disch := first | exact TrueB.mk rfl | omega) only [go_sem, Nat.reduceMul, Nat.reduceAdd, Nat.reduceLT, Nat.reduceLeDiff, Nat.reducePow, Nat.reduceEqDiff, ↓reduceIte, reduceCtorEq, Int.reduceToNat, g1, g2, f1, f3, f40, f41, f42, f43]
          first | exact again_mk ⟨3, ⟨by omega, okTo_3 ho (by simp [g2])⟩, by omega, by simp only [g1]; rfl⟩ | done
        | false =>
          simp (maxSteps := 400000) -dsimp -implicitDefEqProofs (disch := first | exact TrueB.mk rfl | omega) only [go_sem, Nat.reduceMul, Nat.reduceAdd, Nat.reduceLT, Nat.reduceLeDiff, Nat.reducePow, Nat.reduceEqDiff, ↓reduceIte, reduceCtorEq, Int.reduceToNat, g1, g2, f1, f3, f40, f41, f42, f43]
          first | exact end_bool rfl (by simp [mayI, g1, g2]) | done
      · cases g1 : a.h3 with
        | true =>
          simp (maxSteps := 400000) -dsimp -implicitDefEqProofs (disch := first | exact TrueB.mk rfl | omega) only [go_sem, Nat.reduceMul, Nat.reduceAdd, Nat.reduceLT, Nat.reduceLeDiff, Nat.reducePow, Nat.reduceEqDiff, ↓reduceIte, reduceCtorEq, Int.reduceToNat, g1]
          first | exact again_mk ⟨4, ⟨by omega, okTo_4 ho (by simp [g1])⟩, by omega, by simp only [g1]; rfl⟩ | done
        | false =>
        cases g2 : w4z a.d3 with
        | true =>
          simp (maxSteps := 400000) -dsimp -implicitDefEqProofs (disch := first | exact TrueB.mk rfl | omega) only [go_sem, Nat.reduceMul, Nat.reduceAdd, Nat.reduceLT, Nat.reduceLeDiff, Nat.reducePow, Nat.reduceEqDiff, ↓reduceIte, reduceCtorEq, Int.reduceToNat, g1, g2, f1, f3, f40, f41, f42, f43]
          first | exact again_mk ⟨4, ⟨by omega, okTo_4 ho (by simp [g2])⟩, by omega, by simp only [g1]; rfl⟩ | done
        | false =>
          simp (maxSteps := 400000) -dsimp -implicitDefEqProofs (disch := first | exact TrueB.mk rfl | omega) only [go_sem, Nat.reduceMul, Nat.reduceAdd, Nat.reduceLT, Nat.reduceLeDiff, Nat.reducePow, Nat.reduceEqDiff, ↓reduceIte, reduceCtorEq, Int.reduceToNat, g1, g2, f1, f3, f40, f41, f42, f43]
          first | exact end_bool rfl (by simp [mayI, g1, g2]) | done
      · simp (maxSteps := 400000) -dsimp -implicitDefEqProofs (disch := first | exact TrueB.mk rfl | omega) only [go_sem, Nat.reduceMul, Nat.reduceAdd, Nat.reduceLT, Nat.reduceLeDiff, Nat.reducePow, Nat.reduceEqDiff, ↓reduceIte, reduceCtorEq, Int.reduceToNat]
        have w0 := ho 0
        have w1 := ho 1
        have w2 := ho 2
        have w3 := ho 3
        simp only [okD] at w0 w1 w2 w3
        first | exact end_bool rfl (by simp [mayI, hI, hw, hip, hv, h5', h6', w0, w1, w2, w3]) | done
    | false =>
    rcases Classical.em (a.slots = 0) with hs | hs
    rotate_left
    · have hs0 := decide_eq_true hs
      simp (maxSteps := 400000) -dsimp -implicitDefEqProofs (disch := first | exact TrueB.mk rfl | omega) only [go_sem, Nat.reduceMul, Nat.reduceAdd, Nat.reduceLT, Nat.reduceLeDiff, Nat.reducePow, Nat.reduceEqDiff, ↓reduceIte, reduceCtorEq, Int.reduceToNat, Try.ntmps62, f1, f3, f40, f41, f42, f43, hI, hw, hip, hv, hs]
      first | exact end_bool rfl (by simp [mayI, hI, hw, hip, hv, hs]) | done
    cases hj : a.vjId with
    | true =>
      simp (maxSteps := 400000) -dsimp -implicitDefEqProofs (disch := first | exact TrueB.mk rfl | omega) only [go_sem, Nat.reduceMul, Nat.reduceAdd, Nat.reduceLT, Nat.reduceLeDiff, Nat.reducePow, Nat.reduceEqDiff, ↓reduceIte, reduceCtorEq, Int.reduceToNat, Try.ntmps62, f1, f3, f40, f41, f42, f43, hI, hw, hip, hv, hs, hj]
      first | exact end_bool rfl (by simp [mayI, hI, hw, hip, hv, hs, hj]) | done
    | false =>
    have h5' : ¬ a.slots < 0 := by omega
    have h6' : ¬ 255 < a.slots := by omega
    simp (maxSteps := 400000) -dsimp -implicitDefEqProofs (disch := first | exact TrueB.mk rfl | omega) only [go_sem, Nat.reduceMul, Nat.reduceAdd, Nat.reduceLT, Nat.reduceLeDiff, Nat.reducePow, Nat.reduceEqDiff, ↓reduceIte, reduceCtorEq, Int.reduceToNat, Try.ntmps62, f1, f3, f40, f41, f42, f43, hI, hw, hip, hv, hj, h5', h6', hs]
    refine wpLoop_ind (α := Nat)
      (fun i => ⟨[(3, .ptr 1392 0), (6, .pure true (.int .i64 i))], [(1392, .box [.pure false (.bool true), .pure false (.int .u8 (a.ip.a.toNat : Int)), .pure false (.int .u8 (a.ip.b.toNat : Int)), .pure false (.int .u8 (a.ip.c.toNat : Int)), .pure false (.int .u8 (a.ip.d.toNat : Int)), .pure false (.bool false), .pure false (.int .i64 0), .pure false (.bool false), .pure false (.bool a.h0), .pure false (.bool a.h1), .pure false (.bool a.h2), .pure false (.bool a.h3), .pure false (.int .u8 (a.d0.a.toNat : Int)), .pure false (.int .u8 (a.d0.b.toNat : Int)), .pure false (.int .u8 (a.d0.c.toNat : Int)), .pure false (.int .u8 (a.d0.d.toNat : Int)), .pure false (.int .u8 (a.d1.a.toNat : Int)), .pure false (.int .u8 (a.d1.b.toNat : Int)), .pure false (.int .u8 (a.d1.c.toNat : Int)), .pure false (.int .u8 (a.d1.d.toNat : Int)), .pure false (.int .u8 (a.d2.a.toNat : Int)), .pure false (.int .u8 (a.d2.b.toNat : Int)), .pure false (.int .u8 (a.d2.c.toNat : Int)), .pure false (.int .u8 (a.d2.d.toNat : Int)), .pure false (.int .u8 (a.d3.a.toNat : Int)), .pure false (.int .u8 (a.d3.b.toNat : Int)), .pure false (.int .u8 (a.d3.c.toNat : Int)), .pure false (.int .u8 (a.d3.d.toNat : Int)), .pure false (.bool false), .pure false (.int .u8 (a.id.a.toNat : Int)), .pure false (.int .u8 (a.id.b.toNat : Int)), .pure false (.int .u8 (a.id.c.toNat : Int)), .pure false (.int .u8 (a.id.d.toNat : Int)), .pure false (.int .u8 (a.id.e.toNat : Int)), .pure false (.int .u8 (a.id.f.toNat : Int)), .pure false (.int .u8 (a.id.g.toNat : Int)), .pure false (.int .u8 (a.id.h.toNat : Int))])]⟩)
      (fun i => i ≤ 4 ∧ okTo a i) (fun i => 4 - i) ?_ 0 ⟨by omega, okTo_0 a⟩ rfl
    rintro i ⟨hi, ho⟩
    have hii : i = 0 ∨ i = 1 ∨ i = 2 ∨ i = 3 ∨ i = 4 := by omega
    rcases hii with rfl | rfl | rfl | rfl | rfl
    · cases g1 : a.h0 with
      | true =>
        simp (maxSteps := 400000) -dsimp -implicitDefEqProofs (disch := first | exact TrueB.mk rfl | omega) only [go_sem, Nat.reduceMul, Nat.reduceAdd, Nat.reduceLT, Nat.reduceLeDiff, Nat.reducePow, Nat.reduceEqDiff, ↓reduceIte, reduceCtorEq, Int.reduceToNat, g1]
        first | exact again_mk ⟨1, ⟨by omega, okTo_1 ho (by simp [g1])⟩, by omega, by simp only [g1]; rfl⟩ | done
      | false =>
      cases g2 : w4z a.d0 with
      | true =>
        simp (maxSteps := 400000) -dsimp -implicitDefEqProofs (disch := first | exact TrueB.mk rfl | omega) only [go_sem, Nat.reduceMul, Nat.reduceAdd, Nat.reduceLT, Nat.reduceLeDiff, Nat.reducePow, Nat.reduceEqDiff, ↓reduceIte, reduceCtorEq, Int.reduceToNat, g1, g2, f1, f3, f40, f41, f42, f43]
        first | exact again_mk ⟨1, ⟨by omega, okTo_1 ho (by simp [g2])⟩, by omega, by simp only [g1]; rfl⟩ | done
      | false =>
        simp (maxSteps := 400000) -dsimp -implicitDefEqProofs (disch := first | exact TrueB.mk rfl | omega) only [go_sem, Nat.reduceMul, Nat.reduceAdd, Nat.reduceLT, Nat.reduceLeDiff, Nat.reducePow, Nat.reduceEqDiff, ↓reduceIte, reduceCtorEq, Int.reduceToNat, g1, g2, f1, f3, f40, f41, f42, f43]
        first | exact end_bool rfl (by simp [mayI, g1, g2]) | done
    · cases g1 : a.h1 with
      | true =>
        simp (maxSteps := 400000) -dsimp -implicitDefEqProofs (disch := first | exact TrueB.mk rfl | omega) only [go_sem, Nat.reduceMul, Nat.reduceAdd, Nat.reduceLT, Nat.reduceLeDiff, Nat.reducePow, Nat.reduceEqDiff, ↓reduceIte, reduceCtorEq, Int.reduceToNat, g1]
        first | exact again_mk ⟨2, ⟨by omega, okTo_2 ho (by simp [g1])⟩, by omega, by simp only [g1]; rfl⟩ | done
      | false =>
      cases g2 : w4z a.d1 with
      | true =>
        simp (maxSteps := 400000) -dsimp -implicitDefEqProofs (disch := first | exact TrueB.mk rfl | omega) only [go_sem, Nat.reduceMul, Nat.reduceAdd, Nat.reduceLT, Nat.reduceLeDiff, Nat.reducePow, Nat.reduceEqDiff, ↓reduceIte, reduceCtorEq, Int.reduceToNat, g1, g2, f1, f3, f40, f41, f42, f43]
        first | exact again_mk ⟨2, ⟨by omega, okTo_2 ho (by simp [g2])⟩, by omega, by simp only [g1]; rfl⟩ | done
      | false =>
        simp (maxSteps := 400000) -dsimp -implicitDefEqProofs (disch := first | exact TrueB.mk rfl | omega) only [go_sem, Nat.reduceMul, Nat.reduceAdd, Nat.reduceLT, Nat.reduceLeDiff, Nat.reducePow, Nat.reduceEqDiff, ↓reduceIte, reduceCtorEq, Int.reduceToNat, g1, g2, f1, f3, f40, f41, f42, f43]
        first | exact end_bool rfl (by simp [mayI, g1, g2]) | done
    · cases g1 : a.h2 with
      | true =>
        simp (maxSteps := 400000) -dsimp -implicitDefEqProofs (disch := first | exact TrueB.mk rfl | omega) only [go_sem, Nat.reduceMul, Nat.reduceAdd, Nat.reduceLT, Nat.reduceLeDiff, Nat.reducePow, Nat.reduceEqDiff, ↓reduceIte, reduceCtorEq, Int.reduceToNat, g1]
        first | exact again_mk ⟨3, ⟨by omega, okTo_3 ho (by simp [g1])⟩, by omega, by simp only [g1]; rfl⟩ | done
      | false =>
      cases g2 : w4z a.d2 with
      | true =>
        simp (maxSteps := 400000) -dsimp -implicitDefEqProofs (disch := first | exact TrueB.mk rfl | omega) only [go_sem, Nat.reduceMul, Nat.reduceAdd, Nat.reduceLT, Nat.reduceLeDiff, Nat.reducePow, Nat.reduceEqDiff, ↓reduceIte, reduceCtorEq, Int.reduceToNat, g1, g2, f1, f3, f40, f41, f42, f43]
        first | exact again_mk ⟨3, ⟨by omega, okTo_3 ho (by simp [g2])⟩, by omega, by simp only [g1]; rfl⟩ | done
      | false =>
        simp (maxSteps := 400000) -dsimp -implicitDefEqProofs (disch := first | exact TrueB.mk rfl | omega) only [go_sem, Nat.reduceMul, Nat.reduceAdd, Nat.reduceLT, Nat.reduceLeDiff, Nat.reducePow, Nat.reduceEqDiff, ↓reduceIte, reduceCtorEq, Int.reduceToNat, g1, g2, f1, f3, f40, f41, f42, f43]
        first | exact end_bool rfl (by simp [mayI, g1, g2]) | done
    · cases g1 : a.h3 with
      | true =>
        simp (maxSteps := 400000) -dsimp -implicitDefEqProofs (disch := first | exact TrueB.mk rfl | omega) only [go_sem, Nat.reduceMul, Nat.reduceAdd, Nat.reduceLT, Nat.reduceLeDiff, Nat.reducePow, Nat.reduceEqDiff, ↓reduceIte, reduceCtorEq, Int.reduceToNat, g1]
        first | exact again_mk ⟨4, ⟨by omega, okTo_4 ho (by simp [g1])⟩, by omega, by simp only [g1]; rfl⟩ | done
      | false =>
      cases g2 : w4z a.d3 with
      | true =>
        simp (maxSteps := 400000) -dsimp -implicitDefEqProofs (disch := first | exact TrueB.mk rfl | omega) only [go_sem, Nat.reduceMul, Nat.reduceAdd, Nat.reduceLT, Nat.reduceLeDiff, Nat.reducePow, Nat.reduceEqDiff, ↓reduceIte, reduceCtorEq, Int.reduceToNat, g1, g2, f1, f3, f40, f41, f42, f43]
        first | exact again_mk ⟨4, ⟨by omega, okTo_4 ho (by simp [g2])⟩, by omega, by simp only [g1]; rfl⟩ | done
      | false =>
        simp (maxSteps := 400000) -dsimp -implicitDefEqProofs (disch := first | exact TrueB.mk rfl | omega) only [go_sem, Nat.reduceMul, Nat.reduceAdd, Nat.reduceLT, Nat.reduceLeDiff, Nat.reducePow, Nat.reduceEqDiff, ↓reduceIte, reduceCtorEq, Int.reduceToNat, g1, g2, f1, f3, f40, f41, f42, f43]
        first | exact end_bool rfl (by simp [mayI, g1, g2]) | done
    · simp (maxSteps := 400000) -dsimp -implicitDefEqProofs (disch := first | exact TrueB.mk rfl | omega) only [go_sem, Nat.reduceMul, Nat.reduceAdd, Nat.reduceLT, Nat.reduceLeDiff, Nat.reducePow, Nat.reduceEqDiff, ↓reduceIte, reduceCtorEq, Int.reduceToNat]
      have w0 := ho 0
      have w1 := ho 1
      have w2 := ho 2
      have w3 := ho 3
      simp only [okD] at w0 w1 w2 w3
      first | exact end_bool rfl (by simp [mayI, hI, hw, hip, hv, hj, h5', h6', hs, w0, w1, w2, w3]) | done
  | false =>
  cases hiz : w4z a.ip with
  | false =>
    simp (maxSteps := 400000) -dsimp -implicitDefEqProofs (disch := first | exact TrueB.mk rfl | omega) only [go_sem, Nat.reduceMul, Nat.reduceAdd, Nat.reduceLT, Nat.reduceLeDiff, Nat.reducePow, Nat.reduceEqDiff, ↓reduceIte, reduceCtorEq, Int.reduceToNat, Try.ntmps62, f1, f3, f40, f41, f42, f43, hI, hw, hip, hiz]
    first | exact end_bool rfl (by simp [mayI, hI, hw, hip, hiz]) | done
  | true =>
  cases hv : a.hasVj with
  | true =>
    rcases Classical.em (0 ≤ a.slots) with h5 | h5
    rotate_left
    · have h5' : a.slots < 0 := by omega
      simp (maxSteps := 400000) -dsimp -implicitDefEqProofs (disch := first | exact TrueB.mk rfl | omega) only [go_sem, Nat.reduceMul, Nat.reduceAdd, Nat.reduceLT, Nat.reduceLeDiff, Nat.reducePow, Nat.reduceEqDiff, ↓reduceIte, reduceCtorEq, Int.reduceToNat, Try.ntmps62, f1, f3, f40, f41, f42, f43, hI, hw, hip, hiz, hv, h5']
      first | exact end_bool rfl (by simp [mayI, hI, hw, hip, hiz, hv, h5']) | done
    rcases Classical.em (a.slots ≤ 255) with h6 | h6
    rotate_left
    · have h6' : 255 < a.slots := by omega
      simp (maxSteps := 400000) -dsimp -implicitDefEqProofs (disch := first | exact TrueB.mk rfl | omega) only [go_sem, Nat.reduceMul, Nat.reduceAdd, Nat.reduceLT, Nat.reduceLeDiff, Nat.reducePow, Nat.reduceEqDiff, ↓reduceIte, reduceCtorEq, Int.reduceToNat, Try.ntmps62, f1, f3, f40, f41, f42, f43, hI, hw, hip, hiz, hv, h6']
      first | exact end_bool rfl (by simp [mayI, hI, hw, hip, hiz, hv, h6']) | done
    have h5' : ¬ a.slots < 0 := by omega
    have h6' : ¬ 255 < a.slots := by omega
    simp (maxSteps := 400000) -dsimp -implicitDefEqProofs (disch := first | exact TrueB.mk rfl | omega) only [go_sem, Nat.reduceMul, Nat.reduceAdd, Nat.reduceLT, Nat.reduceLeDiff, Nat.reducePow, Nat.reduceEqDiff, ↓reduceIte, reduceCtorEq, Int.reduceToNat, Try.ntmps62, f1, f3, f40, f41, f42, f43, hI, hw, hip, hiz, hv, h5', h6']
    refine wpLoop_ind (α := Nat)
      (fun i => ⟨[(3, .ptr 1392 0), (6, .pure true (.int .i64 i))], [(1392, .box [.pure false (.bool false), .pure false (.int .u8 (a.ip.a.toNat : Int)), .pure false (.int .u8 (a.ip.b.toNat : Int)), .pure false (.int .u8 (a.ip.c.toNat : Int)), .pure false (.int .u8 (a.ip.d.toNat : Int)), .pure false (.bool true), .pure false (.int .i64 a.slots), .pure false (.bool a.vjId), .pure false (.bool a.h0), .pure false (.bool a.h1), .pure false (.bool a.h2), .pure false (.bool a.h3), .pure false (.int .u8 (a.d0.a.toNat : Int)), .pure false (.int .u8 (a.d0.b.toNat : Int)), .pure false (.int .u8 (a.d0.c.toNat : Int)), .pure false (.int .u8 (a.d0.d.toNat : Int)), .pure false (.int .u8 (a.d1.a.toNat : Int)), .pure false (.int .u8 (a.d1.b.toNat : Int)), .pure false (.int .u8 (a.d1.c.toNat : Int)), .pure false (.int .u8 (a.d1.d.toNat : Int)), .pure false (.int .u8 (a.d2.a.toNat : Int)), .pure false (.int .u8 (a.d2.b.toNat : Int)), .pure false (.int .u8 (a.d2.c.toNat : Int)), .pure false (.int .u8 (a.d2.d.toNat : Int)), .pure false (.int .u8 (a.d3.a.toNat : Int)), .pure false (.int .u8 (a.d3.b.toNat : Int)), .pure false (.int .u8 (a.d3.c.toNat : Int)), .pure false (.int .u8 (a.d3.d.toNat : Int)), .pure false (.bool false), .pure false (.int .u8 (a.id.a.toNat : Int)), .pure false (.int .u8 (a.id.b.toNat : Int)), .pure false (.int .u8 (a.id.c.toNat : Int)), .pure false (.int .u8 (a.id.d.toNat : Int)), .pure false (.int .u8 (a.id.e.toNat : Int)), .pure false (.int .u8 (a.id.f.toNat : Int)), .pure false (.int .u8 (a.id.g.toNat : Int)), .pure false (.int .u8 (a.id.h.toNat : Int))])]⟩)
      (fun i => i ≤ 4 ∧ okTo a i) (fun i => 4 - i) ?_ 0 ⟨by omega, okTo_0 a⟩ rfl
    rintro i ⟨hi, ho⟩
    have hii : i = 0 ∨ i = 1 ∨ i = 2 ∨ i = 3 ∨ i = 4 := by omega
    rcases hii with rfl | rfl | rfl | rfl | rfl
    · cases g1 : a.h0 with
      | true =>
        simp (maxSteps := 400000) -dsimp -implicitDefEqProofs (disch := first | exact TrueB.mk rfl | omega) only [go_sem, Nat.reduceMul, Nat.reduceAdd, Nat.reduceLT, Nat.reduceLeDiff, Nat.reducePow, Nat.reduceEqDiff, ↓reduceIte, reduceCtorEq, Int.reduceToNat, g1]
        first | exact again_mk ⟨1, ⟨by omega, okTo_1 ho (by simp [g1])⟩, by omega, by simp only [g1]; rfl⟩ | done
      | false =>
      cases g2 : w4z a.d0 with
      | true =>
        simp (maxSteps := 400000) -dsimp -implicitDefEqProofs (disch := first | exact TrueB.mk rfl | omega) only [go_sem, Nat.reduceMul, Nat.reduceAdd, Nat.reduceLT, Nat.reduceLeDiff, Nat.reducePow, Nat.reduceEqDiff, ↓reduceIte, reduceCtorEq, Int.reduceToNat, g1, g2, f1, f3, f40, f41, f42, f43]
        first | exact again_mk ⟨1, ⟨by omega, okTo_1 ho (by simp [g2])⟩, by omega, by simp only [g1]; rfl⟩ | done
      | false =>
        simp (maxSteps := 400000) -dsimp -implicitDefEqProofs (disch := first | exact TrueB.mk rfl | omega) only [go_sem, Nat.reduceMul, Nat.reduceAdd, Nat.reduceLT, Nat.reduceLeDiff, Nat.reducePow, Nat.reduceEqDiff, ↓reduceIte, reduceCtorEq, Int.reduceToNat, g1, g2, f1, f3, f40, f41, f42, f43]
        first | exact end_bool rfl (by simp [mayI, g1, g2]) | done
    · cases g1 : a.h1 with
      | true =>
        simp (maxSteps := 400000) -dsimp -implicitDefEqProofs (disch := first | exact TrueB.mk rfl | omega) only [go_sem, Nat.reduceMul, Nat.reduceAdd, Nat.reduceLT, Nat.reduceLeDiff, Nat.reducePow, Nat.reduceEqDiff, ↓reduceIte, reduceCtorEq, Int.reduceToNat, g1]
        first | exact again_mk ⟨2, ⟨by omega, okTo_2 ho (by simp [g1])⟩, by omega, by simp only [g1]; rfl⟩ | done
      | false =>
      cases g2 : w4z a.d1 with
      | true =>
        simp (maxSteps := 400000) -dsimp -implicitDefEqProofs (disch := first | exact TrueB.mk rfl | omega) only [go_sem, Nat.reduceMul, Nat.reduceAdd, Nat.reduceLT, Nat.reduceLeDiff, Nat.reducePow, Nat.reduceEqDiff, ↓reduceIte, reduceCtorEq, Int.reduceToNat, g1, g2, f1, f3, f40, f41, f42, f43]
        first | exact again_mk ⟨2, ⟨by omega, okTo_2 ho (by simp [g2])⟩, by omega, by simp only [g1]; rfl⟩ | done
      | false =>
        simp (maxSteps := 400000) -dsimp -implicitDefEqProofs (disch := first | exact TrueB.mk rfl | omega) only [go_sem, Nat.reduceMul, Nat.reduceAdd, Nat.reduceLT, Nat.reduceLeDiff, Nat.reducePow, Nat.reduceEqDiff, ↓reduceIte, reduceCtorEq, Int.reduceToNat, g1, g2, f1, f3, f40, f41, f42, f43]
        first | exact end_bool rfl (by simp [mayI, g1, g2]) | done
    · cases g1 : a.h2 with
      | true =>
        simp (maxSteps := 400000) -dsimp -implicitDefEqProofs (disch := first | exact TrueB.mk rfl | omega) only [go_sem, Nat.reduceMul, Nat.reduceAdd, Nat.reduceLT, Nat.reduceLeDiff, Nat.reducePow, Nat.reduceEqDiff, ↓reduceIte, reduceCtorEq, Int.reduceToNat, g1]
        first | exact again_mk ⟨3, ⟨by omega, okTo_3 ho (by simp [g1])⟩, by omega, by simp only [g1]; rfl⟩ | done
      | false =>
      cases g2 : w4z a.d2 with
      | true =>
        simp (maxSteps := 400000) -dsimp -implicitDefEqProofs (disch := first | exact TrueB.mk rfl | omega) only [go_sem, Nat.reduceMul, Nat.reduceAdd, Nat.reduceLT, Nat.reduceLeDiff, Nat.reducePow, Nat.reduceEqDiff, ↓reduceIte, reduceCtorEq, Int.reduceToNat, g1, g2, f1, f3, f40, f41, f42, f43]
        first | exact again_mk ⟨3, ⟨by omega, okTo_3 ho (by simp [g2])⟩, by omega, by simp only [g1]; rfl⟩ | done
      | false =>
        simp (maxSteps := 400000) -dsimp -implicitDefEqProofs (disch := first | exact TrueB.mk rfl | omega) only [go_sem, Nat.reduceMul, Nat.reduceAdd, Nat.reduceLT, Nat.reduceLeDiff, Nat.reducePow, Nat.reduceEqDiff, ↓reduceIte, reduceCtorEq, Int.reduceToNat, g1, g2, f1, f3, f40, f41, f42, f43]
        first | exact end_bool rfl (by simp [mayI, g1, g2]) | done
    · cases g1 : a.h3 with
      | true =>
        simp (maxSteps := 400000) -dsimp -implicitDefEqProofs (disch := first | exact TrueB.mk rfl | omega) only [go_sem, Nat.reduceMul, Nat.reduceAdd, Nat.reduceLT, Nat.reduceLeDiff, Nat.reducePow, Nat.reduceEqDiff, ↓reduceIte, reduceCtorEq, Int.reduceToNat, g1]
        first | exact again_mk ⟨4, ⟨by omega, okTo_4 ho (by simp [g1])⟩, by omega, by simp only [g1]; rfl⟩ | done
      | false =>
      cases g2 : w4z a.d3 with
      | true =>
        simp (maxSteps := 400000) -dsimp -implicitDefEqProofs (disch := first | exact TrueB.mk rfl | omega) only [go_sem, Nat.reduceMul, Nat.reduceAdd, Nat.reduceLT, Nat.reduceLeDiff, Nat.reducePow, Nat.reduceEqDiff, ↓reduceIte, reduceCtorEq, Int.reduceToNat, g1, g2, f1, f3, f40, f41, f42, f43]
        first | exact again_mk ⟨4, ⟨by omega, okTo_4 ho (by simp [g2])⟩, by omega, by simp only [g1]; rfl⟩ | done
      | false =>
        simp (maxSteps := 400000) -dsimp -implicitDefEqProofs (disch := first | exact TrueB.mk rfl | omega) only [go_sem, Nat.reduceMul, Nat.reduceAdd, Nat.reduceLT, Nat.reduceLeDiff, Nat.reducePow, Nat.reduceEqDiff, ↓reduceIte, reduceCtorEq, Int.reduceToNat, g1, g2, f1, f3, f40, f41, f42, f43]
        first | exact end_bool rfl (by simp [mayI, g1, g2]) | done
    · simp (maxSteps := 400000) -dsimp -implicitDefEqProofs (disch := first | exact TrueB.mk rfl | omega) only [go_sem, Nat.reduceMul, Nat.reduceAdd, Nat.reduceLT, Nat.reduceLeDiff, Nat.reducePow, Nat.reduceEqDiff, ↓reduceIte, reduceCtorEq, Int.reduceToNat]
      have w0 := ho 0
      have w1 := ho 1
      have w2 := ho 2
      have w3 := ho 3
      simp only [okD] at w0 w1 w2 w3
      first | exact end_bool rfl (by simp [mayI, hI, hw, hip, hiz, hv, h5', h6', w0, w1, w2, w3]) | done
  | false =>
  rcases Classical.em (a.slots = 0) with hs | hs
  rotate_left
  · have hs0 := decide_eq_true hs
    simp (maxSteps := 400000) -dsimp -implicitDefEqProofs (disch := first | exact TrueB.mk rfl | omega) only [go_sem, Nat.reduceMul, Nat.reduceAdd, Nat.reduceLT, Nat.reduceLeDiff, Nat.reducePow, Nat.reduceEqDiff, ↓reduceIte, reduceCtorEq, Int.reduceToNat, Try.ntmps62, f1, f3, f40, f41, f42, f43, hI, hw, hip, hiz, hv, hs]
    first | exact end_bool rfl (by simp [mayI, hI, hw, hip, hiz, hv, hs]) | done
  cases hj : a.vjId with
  | true =>
    simp (maxSteps := 400000) -dsimp -implicitDefEqProofs (disch := first | exact TrueB.mk rfl | omega) only [go_sem, Nat.reduceMul, Nat.reduceAdd, Nat.reduceLT, Nat.reduceLeDiff, Nat.reducePow, Nat.reduceEqDiff, ↓reduceIte, reduceCtorEq, Int.reduceToNat, Try.ntmps62, f1, f3, f40, f41, f42, f43, hI, hw, hip, hiz, hv, hs, hj]
    first | exact end_bool rfl (by simp [mayI, hI, hw, hip, hiz, hv, hs, hj]) | done
  | false =>
  have h5' : ¬ a.slots < 0 := by omega
  have h6' : ¬ 255 < a.slots := by omega
  simp (maxSteps := 400000) -dsimp -implicitDefEqProofs (disch := first | exact TrueB.mk rfl | omega) only [go_sem, Nat.reduceMul, Nat.reduceAdd, Nat.reduceLT, Nat.reduceLeDiff, Nat.reducePow, Nat.reduceEqDiff, ↓reduceIte, reduceCtorEq, Int.reduceToNat, Try.ntmps62, f1, f3, f40, f41, f42, f43, hI, hw, hip, hiz, hv, hj, h5', h6', hs]
  refine wpLoop_ind (α := Nat)
    (fun i => ⟨[(3, .ptr 1392 0), (6, .pure true (.int .i64 i))], [(1392, .box [.pure false (.bool false), .pure false (.int .u8 (a.ip.a.toNat : Int)), .pure false (.int .u8 (a.ip.b.toNat : Int)), .pure false (.int .u8 (a.ip.c.toNat : Int)), .pure false (.int .u8 (a.ip.d.toNat : Int)), .pure false (.bool false), .pure false (.int .i64 0), .pure false (.bool false), .pure false (.bool a.h0), .pure false (.bool a.h1), .pure false (.bool a.h2), .pure false (.bool a.h3), .pure false (.int .u8 (a.d0.a.toNat : Int)), .pure false (.int .u8 (a.d0.b.toNat : Int)), .pure false (.int .u8 (a.d0.c.toNat : Int)), .pure false (.int .u8 (a.d0.d.toNat : Int)), .pure false (.int .u8 (a.d1.a.toNat : Int)), .pure false (.int .u8 (a.d1.b.toNat : Int)), .pure false (.int .u8 (a.d1.c.toNat : Int)), .pure false (.int .u8 (a.d1.d.toNat : Int)), .pure false (.int .u8 (a.d2.a.toNat : Int)), .pure false (.int .u8 (a.d2.b.toNat : Int)), .pure false (.int .u8 (a.d2.c.toNat : Int)), .pure false (.int .u8 (a.d2.d.toNat : Int)), .pure false (.int .u8 (a.d3.a.toNat : Int)), .pure false (.int .u8 (a.d3.b.toNat : Int)), .pure false (.int .u8 (a.d3.c.toNat : Int)), .pure false (.int .u8 (a.d3.d.toNat : Int)), .pure false (.bool false), .pure false (.int .u8 (a.id.a.toNat : Int)), .pure false (.int .u8 (a.id.b.toNat : Int)), .pure false (.int .u8 (a.id.c.toNat : Int)), .pure false (.int .u8 (a.id.d.toNat : Int)), .pure false (.int .u8 (a.id.e.toNat : Int)), .pure false (.int .u8 (a.id.f.toNat : Int)), .pure false (.int .u8 (a.id.g.toNat : Int)), .pure false (.int .u8 (a.id.h.toNat : Int))])]⟩)
    (fun i => i ≤ 4 ∧ okTo a i) (fun i => 4 - i) ?_ 0 ⟨by omega, okTo_0 a⟩ rfl
  rintro i ⟨hi, ho⟩
  have hii : i = 0 ∨ i = 1 ∨ i = 2 ∨ i = 3 ∨ i = 4 := by omega
  rcases hii with rfl | rfl | rfl | rfl | rfl
  · cases g1 : a.h0 with
    | true =>
      simp (maxSteps := 400000) -dsimp -implicitDefEqProofs (disch := first | exact TrueB.mk rfl | omega) only [go_sem, Nat.reduceMul, Nat.reduceAdd, Nat.reduceLT, Nat.reduceLeDiff, Nat.reducePow, Nat.reduceEqDiff, ↓reduceIte, reduceCtorEq, Int.reduceToNat, g1]
      first | exact again_mk ⟨1, ⟨by omega, okTo_1 ho (by simp [g1])⟩, by omega, by simp only [g1]; rfl⟩ | done
    | false =>
    cases g2 : w4z a.d0 with
    | true =>
      simp (maxSteps := 400000) -dsimp -implicitDefEqProofs (disch := first | exact TrueB.mk rfl | omega) only [go_sem, Nat.reduceMul, Nat.reduceAdd, Nat.reduceLT, Nat.reduceLeDiff, Nat.reducePow, Nat.reduceEqDiff, ↓reduceIte, reduceCtorEq, Int.reduceToNat, g1, g2, f1, f3, f40, f41, f42, f43]
      first | exact again_mk ⟨1, ⟨by omega, okTo_1 ho (by simp [g2])⟩, by omega, by simp only [g1]; rfl⟩ | done
    | false =>
      simp (maxSteps := 400000) -dsimp -implicitDefEqProofs (disch := first | exact TrueB.mk rfl | omega) only [go_sem, Nat.reduceMul, Nat.reduceAdd, Nat.reduceLT, Nat.reduceLeDiff, Nat.reducePow, Nat.reduceEqDiff, ↓reduceIte, reduceCtorEq, Int.reduceToNat, g1, g2, f1, f3, f40, f41, f42, f43]
      first | exact end_bool rfl (by simp [mayI, g1, g2]) | done
  · cases g1 : a.h1 with
    | true =>
      simp (maxSteps := 400000) -dsimp -implicitDefEqProofs (disch := first | exact TrueB.mk rfl | omega) only [go_sem, Nat.reduceMul, Nat.reduceAdd, Nat.reduceLT, Nat.reduceLeDiff, Nat.reducePow, Nat.reduceEqDiff, ↓reduceIte, reduceCtorEq, Int.reduceToNat, g1]
      first | exact again_mk ⟨2, ⟨by omega, okTo_2 ho (by simp [g1])⟩, by omega, by simp only [g1]; rfl⟩ | done
    | false =>
    cases g2 : w4z a.d1 with
    | true =>
      simp (maxSteps := 400000) -dsimp -implicitDefEqProofs (disch := first | exact TrueB.mk rfl | omega) only [go_sem, Nat.reduceMul, Nat.reduceAdd, Nat.reduceLT, Nat.reduceLeDiff, Nat.reducePow, Nat.reduceEqDiff, ↓reduceIte, reduceCtorEq, Int.reduceToNat, g1, g2, f1, f3, f40, f41, f42, f43]
      first | exact again_mk ⟨2, ⟨by omega, okTo_2 ho (by simp [g2])⟩, by omega, by simp only [g1]; rfl⟩ | done
    | false =>
      simp (maxSteps := 400000) -dsimp -implicitDefEqProofs (disch := first | exact TrueB.mk rfl | omega) only [go_sem, Nat.reduceMul, Nat.reduceAdd, Nat.reduceLT, Nat.reduceLeDiff, Nat.reducePow, Nat.reduceEqDiff, ↓reduceIte, reduceCtorEq, Int.reduceToNat, g1, g2, f1, f3, f40, f41, f42, f43]
      first | exact end_bool rfl (by simp [mayI, g1, g2]) | done
  · cases g1 : a.h2 with
    | true =>
      simp (maxSteps := 400000) -dsimp -implicitDefEqProofs (disch := first | exact TrueB.mk rfl | omega) only [go_sem, Nat.reduceMul, Nat.reduceAdd, Nat.reduceLT, Nat.reduceLeDiff, Nat.reducePow, Nat.reduceEqDiff, ↓reduceIte, reduceCtorEq, Int.reduceToNat, g1]
      first | exact again_mk ⟨3, ⟨by omega, okTo_3 ho (by simp [g1])⟩, by omega, by simp only [g1]; rfl⟩ | done
    | false =>
    cases g2 : w4z a.d2 with
    | true =>
      simp (maxSteps := 400000) -dsimp -implicitDefEqProofs (disch := first | exact TrueB.mk rfl | omega) only [go_sem, Nat.reduceMul, Nat.reduceAdd, Nat.reduceLT, Nat.reduceLeDiff, Nat.reducePow, Nat.reduceEqDiff, ↓reduceIte, reduceCtorEq, Int.reduceToNat, g1, g2, f1, f3, f40, f41, f42, f43]
      first | exact again_mk ⟨3, ⟨by omega, okTo_3 ho (by simp [g2])⟩, by omega, by simp only [g1]; rfl⟩ | done
    | false =>
      simp (maxSteps := 400000) -dsimp -implicitDefEqProofs (disch := first | exact TrueB.mk rfl | omega) only [go_sem, Nat.reduceMul, Nat.reduceAdd, Nat.reduceLT, Nat.reduceLeDiff, Nat.reducePow, Nat.reduceEqDiff, ↓reduceIte, reduceCtorEq, Int.reduceToNat, g1, g2, f1, f3, f40, f41, f42, f43]
      first | exact end_bool rfl (by simp [mayI, g1, g2]) | done
  · cases g1 : a.h3 with
    | true =>
      simp (maxSteps := 400000) -dsimp -implicitDefEqProofs (disch := first | exact TrueB.mk rfl | omega) only [go_sem, Nat.reduceMul, Nat.reduceAdd, Nat.reduceLT, Nat.reduceLeDiff, Nat.reducePow, Nat.reduceEqDiff, ↓reduceIte, reduceCtorEq, Int.reduceToNat, g1]
      first | exact again_mk ⟨4, ⟨by omega, okTo_4 ho (by simp [g1])⟩, by omega, by simp only [g1]; rfl⟩ | done
    | false =>
    cases g2 : w4z a.d3 with
    | true =>
      simp (maxSteps := 400000) -dsimp -implicitDefEqProofs (disch := first | exact TrueB.mk rfl | omega) only [go_sem, Nat.reduceMul, Nat.reduceAdd, Nat.reduceLT, Nat.reduceLeDiff, Nat.reducePow, Nat.reduceEqDiff, ↓reduceIte, reduceCtorEq, Int.reduceToNat, g1, g2, f1, f3, f40, f41, f42, f43]
      first | exact again_mk ⟨4, ⟨by omega, okTo_4 ho (by simp [g2])⟩, by omega, by simp only [g1]; rfl⟩ | done
    | false =>
      simp (maxSteps := 400000) -dsimp -implicitDefEqProofs (disch := first | exact TrueB.mk rfl | omega) only [go_sem, Nat.reduceMul, Nat.reduceAdd, Nat.reduceLT, Nat.reduceLeDiff, Nat.reducePow, Nat.reduceEqDiff, ↓reduceIte, reduceCtorEq, Int.reduceToNat, g1, g2, f1, f3, f40, f41, f42, f43]
      first | exact end_bool rfl (by simp [mayI, g1, g2]) | done
  · simp (maxSteps := 400000) -dsimp -implicitDefEqProofs (disch := first | exact TrueB.mk rfl | omega) only [go_sem, Nat.reduceMul, Nat.reduceAdd, Nat.reduceLT, Nat.reduceLeDiff, Nat.reducePow, Nat.reduceEqDiff, ↓reduceIte, reduceCtorEq, Int.reduceToNat]
    have w0 := ho 0
    have w1 := ho 1
    have w2 := ho 2
    have w3 := ho 3
    simp only [okD] at w0 w1 w2 w3
    first | exact end_bool rfl (by simp [mayI, hI, hw, hip, hiz, hv, hj, h5', h6', hs, w0, w1, w2, w3]) | done

set_option maxHeartbeats 16000000 in
theorem may_none (p : Int) (a : Adr) (h1 : ¬ p = 32855) (h2 : ¬ p = 32801) (m : Bool) : Runs Try.prog env 62 [.pure m (.int .i64 p), .pure false (adrV a)] [] (.pure true (.bool false)) [] := by
  unfold adrV
  refine Runs.of Try.func62 rfl (by simp [Try.ntmps62]) ?_
  simp (maxSteps := 400000) -dsimp -implicitDefEqProofs (disch := first | exact TrueB.mk rfl | omega) only [go_sem, Nat.reduceMul, Nat.reduceAdd, Nat.reduceLT, Nat.reduceLeDiff, Nat.reducePow, Nat.reduceEqDiff, ↓reduceIte, reduceCtorEq, Int.reduceToNat, Try.ntmps62]
  first | exact end_bool rfl rfl | done
end Go.Proofs.Ytpgklagjjimbhaa
