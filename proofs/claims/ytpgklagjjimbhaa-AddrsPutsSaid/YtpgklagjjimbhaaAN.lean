/- YtpgklagjjimbhaaAN: addresses: the list that tells them, by the document. No claim. -/
import Derived.Test.YtpgklagjjimbhaaAM
set_option linter.unusedVariables false
set_option linter.unusedSimpArgs false
set_option maxRecDepth 100000
namespace Go.Proofs.Ytpgklagjjimbhaa
open Go Go.Proofs.Ytpgklagjjimbhaa.V

set_option maxHeartbeats 4000000 in
theorem four_any (w : W4) (m : Bool) : Runs Try.prog env 91 [.pure m (.agg [.int .u8 w.a.toNat, .int .u8 w.b.toNat, .int .u8 w.c.toNat, .int .u8 w.d.toNat])] [] (.row 0 4) [(0, .row true 1 0 (bytesOf (l4 w)))] := by
  refine Runs.of Try.func91 rfl (by simp [Try.ntmps91]) ?_
  simp (maxSteps := 400000) -dsimp -implicitDefEqProofs (disch := first | exact TrueB.mk rfl | omega) only [go_sem, Nat.reduceMul, Nat.reduceAdd, Nat.reduceLT, Nat.reduceLeDiff, Nat.reducePow, Nat.reduceEqDiff, ↓reduceIte, reduceCtorEq, Int.reduceToNat, Try.ntmps91]
  first | exact rfl | done

set_option maxHeartbeats 32000000 in
theorem refPut_n0 {p : Int} {a : Adr} (hI : a.hasId = false) (hv : a.hasVj = false) (hip : a.hasIp = false) (m : Bool) : Runs Try.prog env 63 [.pure m (.int .i64 p), .pure false (adrV a)] [] (.row 0 (dnsO a ([]) 4).length) [(0, .row true (zOf (dnsO a ([]) 4)) ((dnsO a ([]) 4).length - 1) (optsV (dnsO a ([]) 4)))] := by
  unfold adrV
  refine Runs.of Try.func63 rfl (by simp [Try.ntmps63]) ?_
  simp (maxSteps := 400000) -dsimp -implicitDefEqProofs (disch := first | exact TrueB.mk rfl | omega) only [go_sem, Nat.reduceMul, Nat.reduceAdd, Nat.reduceLT, Nat.reduceLeDiff, Nat.reducePow, Nat.reduceEqDiff, ↓reduceIte, reduceCtorEq, Int.reduceToNat, Try.ntmps63, hI, hv, hip]
  refine wpLoop_ind (α := Nat)
    (fun i => ⟨[(3, .ptr 1152 0), (5, .row 1153 (dnsO a ([]) i).length), (9, .pure true (.int .i64 i))], [(1152, .box [.pure false (.bool false), .pure false (.int .u8 (a.ip.a.toNat : Int)), .pure false (.int .u8 (a.ip.b.toNat : Int)), .pure false (.int .u8 (a.ip.c.toNat : Int)), .pure false (.int .u8 (a.ip.d.toNat : Int)), .pure false (.bool false), .pure false (.int .i64 a.slots), .pure false (.bool a.vjId), .pure false (.bool a.h0), .pure false (.bool a.h1), .pure false (.bool a.h2), .pure false (.bool a.h3), .pure false (.int .u8 (a.d0.a.toNat : Int)), .pure false (.int .u8 (a.d0.b.toNat : Int)), .pure false (.int .u8 (a.d0.c.toNat : Int)), .pure false (.int .u8 (a.d0.d.toNat : Int)), .pure false (.int .u8 (a.d1.a.toNat : Int)), .pure false (.int .u8 (a.d1.b.toNat : Int)), .pure false (.int .u8 (a.d1.c.toNat : Int)), .pure false (.int .u8 (a.d1.d.toNat : Int)), .pure false (.int .u8 (a.d2.a.toNat : Int)), .pure false (.int .u8 (a.d2.b.toNat : Int)), .pure false (.int .u8 (a.d2.c.toNat : Int)), .pure false (.int .u8 (a.d2.d.toNat : Int)), .pure false (.int .u8 (a.d3.a.toNat : Int)), .pure false (.int .u8 (a.d3.b.toNat : Int)), .pure false (.int .u8 (a.d3.c.toNat : Int)), .pure false (.int .u8 (a.d3.d.toNat : Int)), .pure false (.bool false), .pure false (.int .u8 (a.id.a.toNat : Int)), .pure false (.int .u8 (a.id.b.toNat : Int)), .pure false (.int .u8 (a.id.c.toNat : Int)), .pure false (.int .u8 (a.id.d.toNat : Int)), .pure false (.int .u8 (a.id.e.toNat : Int)), .pure false (.int .u8 (a.id.f.toNat : Int)), .pure false (.int .u8 (a.id.g.toNat : Int)), .pure false (.int .u8 (a.id.h.toNat : Int))]), (1153, .row true (zOf (dnsO a ([]) i)) ((dnsO a ([]) i).length - 1) (optsV (dnsO a ([]) i)))]⟩)
    (fun i => i ≤ 4) (fun i => 4 - i) ?_ 0 (by omega) rfl
  have n3 := fun i => dns_len a ([]) i
  have n4 : ([] : List Opt).length ≤ 2 := by simp
  generalize ([] : List Opt) = O2 at *
  rintro i hi
  have hii : i = 0 ∨ i = 1 ∨ i = 2 ∨ i = 3 ∨ i = 4 := by omega
  rcases hii with rfl | rfl | rfl | rfl | rfl
  · have hz := zOf_or (dnsO a O2 0)
    have m3 := n3 0
    cases g : a.h0 with
    | false =>
      have e3 : dnsO a O2 1 = dnsO a O2 0 := by
        show dnsO a O2 0 ++ optB a.h0 _ _ = _
        rw [g]
        exact List.append_nil _
      generalize dnsO a O2 0 = OA at *
      simp (maxSteps := 400000) -dsimp -implicitDefEqProofs (disch := first | exact TrueB.mk rfl | omega) only [go_sem, Nat.reduceMul, Nat.reduceAdd, Nat.reduceLT, Nat.reduceLeDiff, Nat.reducePow, Nat.reduceEqDiff, ↓reduceIte, reduceCtorEq, Int.reduceToNat, g]
      refine again_mk ⟨1, by omega, by omega, ?_⟩
      simp only [e3, g]
      rfl
    | true =>
      have e3 : dnsO a O2 1 = dnsO a O2 0 ++ [(129, l4 a.d0)] := by
        show dnsO a O2 0 ++ optB a.h0 _ _ = _
        rw [g]
        rfl
      generalize dnsO a O2 0 = OA at *
      have ec : (4 : Nat) = (l4 a.d0).length := rfl
      simp (maxSteps := 400000) -dsimp -implicitDefEqProofs (disch := first | exact TrueB.mk rfl | omega) only [go_sem, Nat.reduceMul, Nat.reduceAdd, Nat.reduceLT, Nat.reduceLeDiff, Nat.reducePow, Nat.reduceEqDiff, ↓reduceIte, reduceCtorEq, Int.reduceToNat, g]
      first | refine wpAct_callG (four_any a.d0 _) rfl rfl rfl rfl rfl rfl rfl rfl rfl ?_ | done
      simp (maxSteps := 400000) -dsimp -implicitDefEqProofs (disch := first | exact TrueB.mk rfl | omega) only [go_sem, Nat.reduceMul, Nat.reduceAdd, Nat.reduceLT, Nat.reduceLeDiff, Nat.reducePow, Nat.reduceEqDiff, ↓reduceIte, reduceCtorEq, Int.reduceToNat, hz, opts_snoc, allScalar]
      refine again_mk ⟨1, by omega, by omega, ?_⟩
      simp only [e3, g, zOf_snoc, List.length_append, List.length_cons, List.length_nil]
      rfl
  · have hz := zOf_or (dnsO a O2 1)
    have m3 := n3 1
    cases g : a.h1 with
    | false =>
      have e3 : dnsO a O2 2 = dnsO a O2 1 := by
        show dnsO a O2 1 ++ optB a.h1 _ _ = _
        rw [g]
        exact List.append_nil _
      generalize dnsO a O2 1 = OA at *
      simp (maxSteps := 400000) -dsimp -implicitDefEqProofs (disch := first | exact TrueB.mk rfl | omega) only [go_sem, Nat.reduceMul, Nat.reduceAdd, Nat.reduceLT, Nat.reduceLeDiff, Nat.reducePow, Nat.reduceEqDiff, ↓reduceIte, reduceCtorEq, Int.reduceToNat, g]
      refine again_mk ⟨2, by omega, by omega, ?_⟩
      simp only [e3, g]
      rfl
    | true =>
      have e3 : dnsO a O2 2 = dnsO a O2 1 ++ [(130, l4 a.d1)] := by
        show dnsO a O2 1 ++ optB a.h1 _ _ = _
        rw [g]
        rfl
      generalize dnsO a O2 1 = OA at *
      have ec : (4 : Nat) = (l4 a.d1).length := rfl
      simp (maxSteps := 400000) -dsimp -implicitDefEqProofs (disch := first | exact TrueB.mk rfl | omega) only [go_sem, Nat.reduceMul, Nat.reduceAdd, Nat.reduceLT, Nat.reduceLeDiff, Nat.reducePow, Nat.reduceEqDiff, ↓reduceIte, reduceCtorEq, Int.reduceToNat, g]
      first | refine wpAct_callG (four_any a.d1 _) rfl rfl rfl rfl rfl rfl rfl rfl rfl ?_ | done
      simp (maxSteps := 400000) -dsimp -implicitDefEqProofs (disch := first | exact TrueB.mk rfl | omega) only [go_sem, Nat.reduceMul, Nat.reduceAdd, Nat.reduceLT, Nat.reduceLeDiff, Nat.reducePow, Nat.reduceEqDiff, ↓reduceIte, reduceCtorEq, Int.reduceToNat, hz, opts_snoc, allScalar]
      refine again_mk ⟨2, by omega, by omega, ?_⟩
      simp only [e3, g, zOf_snoc, List.length_append, List.length_cons, List.length_nil]
      rfl
  · have hz := zOf_or (dnsO a O2 2)
    have m3 := n3 2
    cases g : a.h2 with
    | false =>
      have e3 : dnsO a O2 3 = dnsO a O2 2 := by
        show dnsO a O2 2 ++ optB a.h2 _ _ = _
        rw [g]
        exact List.append_nil _
      generalize dnsO a O2 2 = OA at *
      simp (maxSteps := 400000) -dsimp -implicitDefEqProofs (disch := first | exact TrueB.mk rfl | omega) only [go_sem, Nat.reduceMul, Nat.reduceAdd, Nat.reduceLT, Nat.reduceLeDiff, Nat.reducePow, Nat.reduceEqDiff, ↓reduceIte, reduceCtorEq, Int.reduceToNat, g]
      refine again_mk ⟨3, by omega, by omega, ?_⟩
      simp only [e3, g]
      rfl
    | true =>
      have e3 : dnsO a O2 3 = dnsO a O2 2 ++ [(131, l4 a.d2)] := by
        show dnsO a O2 2 ++ optB a.h2 _ _ = _
        rw [g]
        rfl
      generalize dnsO a O2 2 = OA at *
      have ec : (4 : Nat) = (l4 a.d2).length := rfl
      simp (maxSteps := 400000) -dsimp -implicitDefEqProofs (disch := first | exact TrueB.mk rfl | omega) only [go_sem, Nat.reduceMul, Nat.reduceAdd, Nat.reduceLT, Nat.reduceLeDiff, Nat.reducePow, Nat.reduceEqDiff, ↓reduceIte, reduceCtorEq, Int.reduceToNat, g]
      first | refine wpAct_callG (four_any a.d2 _) rfl rfl rfl rfl rfl rfl rfl rfl rfl ?_ | done
      simp (maxSteps := 400000) -dsimp -implicitDefEqProofs (disch := first | exact TrueB.mk rfl | omega) only [go_sem, Nat.reduceMul, Nat.reduceAdd, Nat.reduceLT, Nat.reduceLeDiff, Nat.reducePow, Nat.reduceEqDiff, ↓reduceIte, reduceCtorEq, Int.reduceToNat, hz, opts_snoc, allScalar]
      refine again_mk ⟨3, by omega, by omega, ?_⟩
      simp only [e3, g, zOf_snoc, List.length_append, List.length_cons, List.length_nil]
      rfl
  · have hz := zOf_or (dnsO a O2 3)
    have m3 := n3 3
    cases g : a.h3 with
    | false =>
      have e3 : dnsO a O2 4 = dnsO a O2 3 := by
        show dnsO a O2 3 ++ optB a.h3 _ _ = _
        rw [g]
        exact List.append_nil _
      generalize dnsO a O2 3 = OA at *
      simp (maxSteps := 400000) -dsimp -implicitDefEqProofs (disch := first | exact TrueB.mk rfl | omega) only [go_sem, Nat.reduceMul, Nat.reduceAdd, Nat.reduceLT, Nat.reduceLeDiff, Nat.reducePow, Nat.reduceEqDiff, ↓reduceIte, reduceCtorEq, Int.reduceToNat, g]
      refine again_mk ⟨4, by omega, by omega, ?_⟩
      simp only [e3, g]
      rfl
    | true =>
      have e3 : dnsO a O2 4 = dnsO a O2 3 ++ [(132, l4 a.d3)] := by
        show dnsO a O2 3 ++ optB a.h3 _ _ = _
        rw [g]
        rfl
      generalize dnsO a O2 3 = OA at *
      have ec : (4 : Nat) = (l4 a.d3).length := rfl
      simp (maxSteps := 400000) -dsimp -implicitDefEqProofs (disch := first | exact TrueB.mk rfl | omega) only [go_sem, Nat.reduceMul, Nat.reduceAdd, Nat.reduceLT, Nat.reduceLeDiff, Nat.reducePow, Nat.reduceEqDiff, ↓reduceIte, reduceCtorEq, Int.reduceToNat, g]
      first | refine wpAct_callG (four_any a.d3 _) rfl rfl rfl rfl rfl rfl rfl rfl rfl ?_ | done
      simp (maxSteps := 400000) -dsimp -implicitDefEqProofs (disch := first | exact TrueB.mk rfl | omega) only [go_sem, Nat.reduceMul, Nat.reduceAdd, Nat.reduceLT, Nat.reduceLeDiff, Nat.reducePow, Nat.reduceEqDiff, ↓reduceIte, reduceCtorEq, Int.reduceToNat, hz, opts_snoc, allScalar]
      refine again_mk ⟨4, by omega, by omega, ?_⟩
      simp only [e3, g, zOf_snoc, List.length_append, List.length_cons, List.length_nil]
      rfl
  · generalize dnsO a O2 4 = O4 at *
    simp (maxSteps := 400000) -dsimp -implicitDefEqProofs (disch := first | exact TrueB.mk rfl | omega) only [go_sem, Nat.reduceMul, Nat.reduceAdd, Nat.reduceLT, Nat.reduceLeDiff, Nat.reducePow, Nat.reduceEqDiff, ↓reduceIte, reduceCtorEq, Int.reduceToNat]
    have hl := lim_opts O4
    first | exact (end_rowT rfl rfl (optsV_length _).symm).trans (by rw [hl]) | done

set_option maxHeartbeats 32000000 in
theorem refPut_01 {p : Int} {a : Adr} (hI : a.hasId = false) (hv : a.hasVj = true) (hip : a.hasIp = true) (hj : a.vjId = false) (s0 : 0 ≤ a.slots) (s1 : a.slots ≤ 255) (m : Bool) : Runs Try.prog env 63 [.pure m (.int .i64 p), .pure false (adrV a)] [] (.row 0 (dnsO a ([(2, [0, 45, UInt8.ofNat a.slots.toNat, 0]), (3, l4 a.ip)]) 4).length) [(0, .row true (zOf (dnsO a ([(2, [0, 45, UInt8.ofNat a.slots.toNat, 0]), (3, l4 a.ip)]) 4)) ((dnsO a ([(2, [0, 45, UInt8.ofNat a.slots.toNat, 0]), (3, l4 a.ip)]) 4).length - 1) (optsV (dnsO a ([(2, [0, 45, UInt8.ofNat a.slots.toNat, 0]), (3, l4 a.ip)]) 4)))] := by
  unfold adrV
  refine Runs.of Try.func63 rfl (by simp [Try.ntmps63]) ?_
  have ws : IntKind.u8.wrap a.slots = ((UInt8.ofNat a.slots.toNat).toNat : Int) := by
    rw [UInt8.toNat_ofNat_of_lt' (by show _ < 256; omega), wrap_u8 (by omega) (by omega)]
    omega
  simp (maxSteps := 400000) -dsimp -implicitDefEqProofs (disch := first | exact TrueB.mk rfl | omega) only [go_sem, Nat.reduceMul, Nat.reduceAdd, Nat.reduceLT, Nat.reduceLeDiff, Nat.reducePow, Nat.reduceEqDiff, ↓reduceIte, reduceCtorEq, Int.reduceToNat, Try.ntmps63, hI, hv, hip, hj, ws]
  have ec : (4 : Nat) = (l4 a.ip).length := rfl
  have et : List.take 4 (l4 a.ip) = l4 a.ip := rfl
  first | refine wpAct_callG (four_any a.ip _) rfl rfl rfl rfl rfl rfl rfl rfl rfl ?_ | done
  simp (maxSteps := 400000) -dsimp -implicitDefEqProofs (disch := first | exact TrueB.mk rfl | omega) only [go_sem, Nat.reduceMul, Nat.reduceAdd, Nat.reduceLT, Nat.reduceLeDiff, Nat.reducePow, Nat.reduceEqDiff, ↓reduceIte, reduceCtorEq, Int.reduceToNat, hI, hv, hip, hj, ws, et]
  refine wpLoop_ind (α := Nat)
    (fun i => ⟨[(3, .ptr 1152 0), (5, .row 1153 (dnsO a ([(2, [0, 45, UInt8.ofNat a.slots.toNat, 0]), (3, l4 a.ip)]) i).length), (9, .pure true (.int .i64 i))], [(1152, .box [.pure false (.bool true), .pure false (.int .u8 (a.ip.a.toNat : Int)), .pure false (.int .u8 (a.ip.b.toNat : Int)), .pure false (.int .u8 (a.ip.c.toNat : Int)), .pure false (.int .u8 (a.ip.d.toNat : Int)), .pure false (.bool true), .pure false (.int .i64 a.slots), .pure false (.bool false), .pure false (.bool a.h0), .pure false (.bool a.h1), .pure false (.bool a.h2), .pure false (.bool a.h3), .pure false (.int .u8 (a.d0.a.toNat : Int)), .pure false (.int .u8 (a.d0.b.toNat : Int)), .pure false (.int .u8 (a.d0.c.toNat : Int)), .pure false (.int .u8 (a.d0.d.toNat : Int)), .pure false (.int .u8 (a.d1.a.toNat : Int)), .pure false (.int .u8 (a.d1.b.toNat : Int)), .pure false (.int .u8 (a.d1.c.toNat : Int)), .pure false (.int .u8 (a.d1.d.toNat : Int)), .pure false (.int .u8 (a.d2.a.toNat : Int)), .pure false (.int .u8 (a.d2.b.toNat : Int)), .pure false (.int .u8 (a.d2.c.toNat : Int)), .pure false (.int .u8 (a.d2.d.toNat : Int)), .pure false (.int .u8 (a.d3.a.toNat : Int)), .pure false (.int .u8 (a.d3.b.toNat : Int)), .pure false (.int .u8 (a.d3.c.toNat : Int)), .pure false (.int .u8 (a.d3.d.toNat : Int)), .pure false (.bool false), .pure false (.int .u8 (a.id.a.toNat : Int)), .pure false (.int .u8 (a.id.b.toNat : Int)), .pure false (.int .u8 (a.id.c.toNat : Int)), .pure false (.int .u8 (a.id.d.toNat : Int)), .pure false (.int .u8 (a.id.e.toNat : Int)), .pure false (.int .u8 (a.id.f.toNat : Int)), .pure false (.int .u8 (a.id.g.toNat : Int)), .pure false (.int .u8 (a.id.h.toNat : Int))]), (1153, .row true (zOf (dnsO a ([(2, [0, 45, UInt8.ofNat a.slots.toNat, 0]), (3, l4 a.ip)]) i)) ((dnsO a ([(2, [0, 45, UInt8.ofNat a.slots.toNat, 0]), (3, l4 a.ip)]) i).length - 1) (optsV (dnsO a ([(2, [0, 45, UInt8.ofNat a.slots.toNat, 0]), (3, l4 a.ip)]) i)))]⟩)
    (fun i => i ≤ 4) (fun i => 4 - i) ?_ 0 (by omega) rfl
  have n3 := fun i => dns_len a ([(2, [0, 45, UInt8.ofNat a.slots.toNat, 0]), (3, l4 a.ip)]) i
  have n4 : ([(2, [0, 45, UInt8.ofNat a.slots.toNat, 0]), (3, l4 a.ip)] : List Opt).length ≤ 2 := by simp
  generalize ([(2, [0, 45, UInt8.ofNat a.slots.toNat, 0]), (3, l4 a.ip)] : List Opt) = O2 at *
  rintro i hi
  have hii : i = 0 ∨ i = 1 ∨ i = 2 ∨ i = 3 ∨ i = 4 := by omega
  rcases hii with rfl | rfl | rfl | rfl | rfl
  · have hz := zOf_or (dnsO a O2 0)
    have m3 := n3 0
    cases g : a.h0 with
    | false =>
      have e3 : dnsO a O2 1 = dnsO a O2 0 := by
        show dnsO a O2 0 ++ optB a.h0 _ _ = _
        rw [g]
        exact List.append_nil _
      generalize dnsO a O2 0 = OA at *
      simp (maxSteps := 400000) -dsimp -implicitDefEqProofs (disch := first | exact TrueB.mk rfl | omega) only [go_sem, Nat.reduceMul, Nat.reduceAdd, Nat.reduceLT, Nat.reduceLeDiff, Nat.reducePow, Nat.reduceEqDiff, ↓reduceIte, reduceCtorEq, Int.reduceToNat, g]
      refine again_mk ⟨1, by omega, by omega, ?_⟩
      simp only [e3, g]
      rfl
    | true =>
      have e3 : dnsO a O2 1 = dnsO a O2 0 ++ [(129, l4 a.d0)] := by
        show dnsO a O2 0 ++ optB a.h0 _ _ = _
        rw [g]
        rfl
      generalize dnsO a O2 0 = OA at *
      have ec : (4 : Nat) = (l4 a.d0).length := rfl
      simp (maxSteps := 400000) -dsimp -implicitDefEqProofs (disch := first | exact TrueB.mk rfl | omega) only [go_sem, Nat.reduceMul, Nat.reduceAdd, Nat.reduceLT, Nat.reduceLeDiff, Nat.reducePow, Nat.reduceEqDiff, ↓reduceIte, reduceCtorEq, Int.reduceToNat, g]
      first | refine wpAct_callG (four_any a.d0 _) rfl rfl rfl rfl rfl rfl rfl rfl rfl ?_ | done
      simp (maxSteps := 400000) -dsimp -implicitDefEqProofs (disch := first | exact TrueB.mk rfl | omega) only [go_sem, Nat.reduceMul, Nat.reduceAdd, Nat.reduceLT, Nat.reduceLeDiff, Nat.reducePow, Nat.reduceEqDiff, ↓reduceIte, reduceCtorEq, Int.reduceToNat, hz, opts_snoc, allScalar]
      refine again_mk ⟨1, by omega, by omega, ?_⟩
      simp only [e3, g, zOf_snoc, List.length_append, List.length_cons, List.length_nil]
      rfl
  · have hz := zOf_or (dnsO a O2 1)
    have m3 := n3 1
    cases g : a.h1 with
    | false =>
      have e3 : dnsO a O2 2 = dnsO a O2 1 := by
        show dnsO a O2 1 ++ optB a.h1 _ _ = _
        rw [g]
        exact List.append_nil _
      generalize dnsO a O2 1 = OA at *
      simp (maxSteps := 400000) -dsimp -implicitDefEqProofs (disch := first | exact TrueB.mk rfl | omega) only [go_sem, Nat.reduceMul, Nat.reduceAdd, Nat.reduceLT, Nat.reduceLeDiff, Nat.reducePow, Nat.reduceEqDiff, ↓reduceIte, reduceCtorEq, Int.reduceToNat, g]
      refine again_mk ⟨2, by omega, by omega, ?_⟩
      simp only [e3, g]
      rfl
    | true =>
      have e3 : dnsO a O2 2 = dnsO a O2 1 ++ [(130, l4 a.d1)] := by
        show dnsO a O2 1 ++ optB a.h1 _ _ = _
        rw [g]
        rfl
      generalize dnsO a O2 1 = OA at *
      have ec : (4 : Nat) = (l4 a.d1).length := rfl
      simp (maxSteps := 400000) -dsimp -implicitDefEqProofs (disch := first | exact TrueB.mk rfl | omega) only [go_sem, Nat.reduceMul, Nat.reduceAdd, Nat.reduceLT, Nat.reduceLeDiff, Nat.reducePow, Nat.reduceEqDiff, ↓reduceIte, reduceCtorEq, Int.reduceToNat, g]
      first | refine wpAct_callG (four_any a.d1 _) rfl rfl rfl rfl rfl rfl rfl rfl rfl ?_ | done
      simp (maxSteps := 400000) -dsimp -implicitDefEqProofs (disch := first | exact TrueB.mk rfl | omega) only [go_sem, Nat.reduceMul, Nat.reduceAdd, Nat.reduceLT, Nat.reduceLeDiff, Nat.reducePow, Nat.reduceEqDiff, ↓reduceIte, reduceCtorEq, Int.reduceToNat, hz, opts_snoc, allScalar]
      refine again_mk ⟨2, by omega, by omega, ?_⟩
      simp only [e3, g, zOf_snoc, List.length_append, List.length_cons, List.length_nil]
      rfl
  · have hz := zOf_or (dnsO a O2 2)
    have m3 := n3 2
    cases g : a.h2 with
    | false =>
      have e3 : dnsO a O2 3 = dnsO a O2 2 := by
        show dnsO a O2 2 ++ optB a.h2 _ _ = _
        rw [g]
        exact List.append_nil _
      generalize dnsO a O2 2 = OA at *
      simp (maxSteps := 400000) -dsimp -implicitDefEqProofs (disch := first | exact TrueB.mk rfl | omega) only [go_sem, Nat.reduceMul, Nat.reduceAdd, Nat.reduceLT, Nat.reduceLeDiff, Nat.reducePow, Nat.reduceEqDiff, ↓reduceIte, reduceCtorEq, Int.reduceToNat, g]
      refine again_mk ⟨3, by omega, by omega, ?_⟩
      simp only [e3, g]
      rfl
    | true =>
      have e3 : dnsO a O2 3 = dnsO a O2 2 ++ [(131, l4 a.d2)] := by
        show dnsO a O2 2 ++ optB a.h2 _ _ = _
        rw [g]
        rfl
      generalize dnsO a O2 2 = OA at *
      have ec : (4 : Nat) = (l4 a.d2).length := rfl
      simp (maxSteps := 400000) -dsimp -implicitDefEqProofs (disch := first | exact TrueB.mk rfl | omega) only [go_sem, Nat.reduceMul, Nat.reduceAdd, Nat.reduceLT, Nat.reduceLeDiff, Nat.reducePow, Nat.reduceEqDiff, ↓reduceIte, reduceCtorEq, Int.reduceToNat, g]
      first | refine wpAct_callG (four_any a.d2 _) rfl rfl rfl rfl rfl rfl rfl rfl rfl ?_ | done
      simp (maxSteps := 400000) -dsimp -implicitDefEqProofs (disch := first | exact TrueB.mk rfl | omega) only [go_sem, Nat.reduceMul, Nat.reduceAdd, Nat.reduceLT, Nat.reduceLeDiff, Nat.reducePow, Nat.reduceEqDiff, ↓reduceIte, reduceCtorEq, Int.reduceToNat, hz, opts_snoc, allScalar]
      refine again_mk ⟨3, by omega, by omega, ?_⟩
      simp only [e3, g, zOf_snoc, List.length_append, List.length_cons, List.length_nil]
      rfl
  · have hz := zOf_or (dnsO a O2 3)
    have m3 := n3 3
    cases g : a.h3 with
    | false =>
      have e3 : dnsO a O2 4 = dnsO a O2 3 := by
        show dnsO a O2 3 ++ optB a.h3 _ _ = _
        rw [g]
        exact List.append_nil _
      generalize dnsO a O2 3 = OA at *
      simp (maxSteps := 400000) -dsimp -implicitDefEqProofs (disch := first | exact TrueB.mk rfl | omega) only [go_sem, Nat.reduceMul, Nat.reduceAdd, Nat.reduceLT, Nat.reduceLeDiff, Nat.reducePow, Nat.reduceEqDiff, ↓reduceIte, reduceCtorEq, Int.reduceToNat, g]
      refine again_mk ⟨4, by omega, by omega, ?_⟩
      simp only [e3, g]
      rfl
    | true =>
      have e3 : dnsO a O2 4 = dnsO a O2 3 ++ [(132, l4 a.d3)] := by
        show dnsO a O2 3 ++ optB a.h3 _ _ = _
        rw [g]
        rfl
      generalize dnsO a O2 3 = OA at *
      have ec : (4 : Nat) = (l4 a.d3).length := rfl
      simp (maxSteps := 400000) -dsimp -implicitDefEqProofs (disch := first | exact TrueB.mk rfl | omega) only [go_sem, Nat.reduceMul, Nat.reduceAdd, Nat.reduceLT, Nat.reduceLeDiff, Nat.reducePow, Nat.reduceEqDiff, ↓reduceIte, reduceCtorEq, Int.reduceToNat, g]
      first | refine wpAct_callG (four_any a.d3 _) rfl rfl rfl rfl rfl rfl rfl rfl rfl ?_ | done
      simp (maxSteps := 400000) -dsimp -implicitDefEqProofs (disch := first | exact TrueB.mk rfl | omega) only [go_sem, Nat.reduceMul, Nat.reduceAdd, Nat.reduceLT, Nat.reduceLeDiff, Nat.reducePow, Nat.reduceEqDiff, ↓reduceIte, reduceCtorEq, Int.reduceToNat, hz, opts_snoc, allScalar]
      refine again_mk ⟨4, by omega, by omega, ?_⟩
      simp only [e3, g, zOf_snoc, List.length_append, List.length_cons, List.length_nil]
      rfl
  · generalize dnsO a O2 4 = O4 at *
    simp (maxSteps := 400000) -dsimp -implicitDefEqProofs (disch := first | exact TrueB.mk rfl | omega) only [go_sem, Nat.reduceMul, Nat.reduceAdd, Nat.reduceLT, Nat.reduceLeDiff, Nat.reducePow, Nat.reduceEqDiff, ↓reduceIte, reduceCtorEq, Int.reduceToNat]
    have hl := lim_opts O4
    first | exact (end_rowT rfl rfl (optsV_length _).symm).trans (by rw [hl]) | done
end Go.Proofs.Ytpgklagjjimbhaa
