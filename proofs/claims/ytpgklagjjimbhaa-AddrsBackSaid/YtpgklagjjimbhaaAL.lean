/- YtpgklagjjimbhaaAL: addresses: the list that tells IPCP's. No claim. -/
import Derived.Test.YtpgklagjjimbhaaAK
set_option linter.unusedVariables false
set_option linter.unusedSimpArgs false
set_option maxRecDepth 100000
namespace Go.Proofs.Ytpgklagjjimbhaa
open Go Go.Proofs.Ytpgklagjjimbhaa.V
theorem dns_len (a : Adr) (o : List Opt) (i : Nat) : (dnsO a o i).length ≤ o.length + i := by
  induction i with
  | zero => exact Nat.le_refl _
  | succ i ih =>
    have := optB_len (hasD a i) (129 + i) (datD a i)
    unfold dnsO
    rw [List.length_append]
    omega

set_option maxHeartbeats 16000000 in
theorem put_ipcp0 {a : Adr} (s0 : 0 ≤ a.slots) (s1 : a.slots ≤ 255) (hv : a.vjId = false) (m : Bool) : putS 32801 a (dnsO a ([] ++ optB a.hasVj 2 [0, 45, UInt8.ofNat a.slots.toNat, 0] ++ optB a.hasIp 3 (l4 a.ip)) 4) m := by
  have cR := fun m m' => readA_any 32801 (dnsO a ([] ++ optB a.hasVj 2 [0, 45, UInt8.ofNat a.slots.toNat, 0] ++ optB a.hasIp 3 (l4 a.ip)) 4) (by have := dns_len a ([] ++ optB a.hasVj 2 [0, 45, UInt8.ofNat a.slots.toNat, 0] ++ optB a.hasIp 3 (l4 a.ip)) 4; have := optB_len a.hasVj 2 [0, 45, UInt8.ofNat a.slots.toNat, 0]; have := optB_len a.hasIp 3 (l4 a.ip); simp only [List.length_append, List.length_nil] at *; omega) m m'
  unfold putS putR putOk
  generalize readA 32801 (dnsO a ([] ++ optB a.hasVj 2 [0, 45, UInt8.ofNat a.slots.toNat, 0] ++ optB a.hasIp 3 (l4 a.ip)) 4) = R at *
  generalize flR 32801 (dnsO a ([] ++ optB a.hasVj 2 [0, 45, UInt8.ofNat a.slots.toNat, 0] ++ optB a.hasIp 3 (l4 a.ip)) 4) = fl at *
  have hfold := adrEq_fold R.1 a
  unfold adrV at *
  simp only [hv, Bool.decide_eq_false, Bool.decide_eq_true] at hfold
  have ws : IntKind.u8.wrap a.slots = ((UInt8.ofNat a.slots.toNat).toNat : Int) := by
    rw [UInt8.toNat_ofNat_of_lt' (by show _ < 256; omega), wrap_u8 (by omega) (by omega)]
    omega
  have q1 := fun m m' => put1_any a.hasVj 2 [0, 45, UInt8.ofNat a.slots.toNat, 0] [] (by simp) m m'
  have q2 := fun h m m' => put1_any a.hasIp 3 (l4 a.ip) ([] ++ optB a.hasVj 2 [0, 45, UInt8.ofNat a.slots.toNat, 0]) h m m'
  have n1 : ([] ++ optB a.hasVj 2 [0, 45, UInt8.ofNat a.slots.toNat, 0]).length ≤ 1 := by have := optB_len a.hasVj 2 [0, 45, UInt8.ofNat a.slots.toNat, 0]; simpa using this
  generalize hO1 : [] ++ optB a.hasVj 2 [0, 45, UInt8.ofNat a.slots.toNat, 0] = O1 at *
  have n2 : (O1 ++ optB a.hasIp 3 (l4 a.ip)).length ≤ 2 := by have := optB_len a.hasIp 3 (l4 a.ip); rw [List.length_append]; omega
  generalize hO2 : O1 ++ optB a.hasIp 3 (l4 a.ip) = O2 at *
  unfold outS at q1 q2
  refine Runs.of Try.func61 rfl (by simp [Try.ntmps61]) ?_
  simp (maxSteps := 400000) -dsimp -implicitDefEqProofs (disch := first | exact TrueB.mk rfl | omega) only [go_sem, Nat.reduceMul, Nat.reduceAdd, Nat.reduceLT, Nat.reduceLeDiff, Nat.reducePow, Nat.reduceEqDiff, ↓reduceIte, reduceCtorEq, Int.reduceToNat, Try.ntmps61, hv, ws]
  refine wpAct_callS [96, 97] (q1 _ _) rfl rfl rfl rfl (argV_p rfl (argV_p rfl (argV_r rfl rfl (argV_p rfl argV_nil)))) rfl rfl rfl rfl rfl ?_
  simp (maxSteps := 400000) -dsimp -implicitDefEqProofs (disch := first | exact TrueB.mk rfl | omega) only [go_sem, Nat.reduceMul, Nat.reduceAdd, Nat.reduceLT, Nat.reduceLeDiff, Nat.reducePow, Nat.reduceEqDiff, ↓reduceIte, reduceCtorEq, Int.reduceToNat, hv]
  refine wpAct_callS [96, 97] (q2 (by omega) _ _) rfl rfl rfl rfl rfl rfl rfl rfl rfl rfl ?_
  simp (maxSteps := 400000) -dsimp -implicitDefEqProofs (disch := first | exact TrueB.mk rfl | omega) only [go_sem, Nat.reduceMul, Nat.reduceAdd, Nat.reduceLT, Nat.reduceLeDiff, Nat.reducePow, Nat.reduceEqDiff, ↓reduceIte, reduceCtorEq, Int.reduceToNat, hv]
  have n3 := fun i => dns_len a O2 i
  refine wpLoop_ind (α := Nat)
    (fun i => ⟨[(0, .pure m (.int .i64 32801)), (3, .ptr 1424 0), (6, .ptr 1425 0), (7, .clo 90 [.ptr 1425 0]), (52, .pure false (.agg [.bool a.h0, .bool a.h1, .bool a.h2, .bool a.h3])), (53, .pure true (.int .i64 i))], [(1424, .fbox false [.bool a.hasIp, .int .u8 (a.ip.a.toNat : Int), .int .u8 (a.ip.b.toNat : Int), .int .u8 (a.ip.c.toNat : Int), .int .u8 (a.ip.d.toNat : Int), .bool a.hasVj, .int .i64 a.slots, .bool false, .bool a.h0, .bool a.h1, .bool a.h2, .bool a.h3, .int .u8 (a.d0.a.toNat : Int), .int .u8 (a.d0.b.toNat : Int), .int .u8 (a.d0.c.toNat : Int), .int .u8 (a.d0.d.toNat : Int), .int .u8 (a.d1.a.toNat : Int), .int .u8 (a.d1.b.toNat : Int), .int .u8 (a.d1.c.toNat : Int), .int .u8 (a.d1.d.toNat : Int), .int .u8 (a.d2.a.toNat : Int), .int .u8 (a.d2.b.toNat : Int), .int .u8 (a.d2.c.toNat : Int), .int .u8 (a.d2.d.toNat : Int), .int .u8 (a.d3.a.toNat : Int), .int .u8 (a.d3.b.toNat : Int), .int .u8 (a.d3.c.toNat : Int), .int .u8 (a.d3.d.toNat : Int), .bool a.hasId, .int .u8 (a.id.a.toNat : Int), .int .u8 (a.id.b.toNat : Int), .int .u8 (a.id.c.toNat : Int), .int .u8 (a.id.d.toNat : Int), .int .u8 (a.id.e.toNat : Int), .int .u8 (a.id.f.toNat : Int), .int .u8 (a.id.g.toNat : Int), .int .u8 (a.id.h.toNat : Int)]), (1425, .box [.row 1426 (dnsO a O2 i).length]), (1426, .row false (zOf (dnsO a O2 i)) ((dnsO a O2 i).length - 1) (optsV (dnsO a O2 i)))]⟩)
    (fun i => i ≤ 4) (fun i => 4 - i) ?_ 0 (by omega) rfl
  rintro i hi
  have hii : i = 0 ∨ i = 1 ∨ i = 2 ∨ i = 3 ∨ i = 4 := by omega
  rcases hii with rfl | rfl | rfl | rfl | rfl
  · have q3 := fun m m' => put1_any a.h0 129 (l4 a.d0) (dnsO a O2 0) (by have := n3 0; omega) m m'
    have e3 : dnsO a O2 0 ++ optB a.h0 129 (l4 a.d0) = dnsO a O2 1 := rfl
    rw [e3] at q3
    generalize dnsO a O2 0 = OA at *
    unfold outS at q3
    simp (maxSteps := 400000) -dsimp -implicitDefEqProofs (disch := first | exact TrueB.mk rfl | omega) only [go_sem, Nat.reduceMul, Nat.reduceAdd, Nat.reduceLT, Nat.reduceLeDiff, Nat.reducePow, Nat.reduceEqDiff, ↓reduceIte, reduceCtorEq, Int.reduceToNat]
    refine wpAct_callS [1425, 1426] (q3 _ _) rfl rfl rfl rfl rfl rfl rfl rfl rfl rfl ?_
    simp (maxSteps := 400000) -dsimp -implicitDefEqProofs (disch := first | exact TrueB.mk rfl | omega) only [go_sem, Nat.reduceMul, Nat.reduceAdd, Nat.reduceLT, Nat.reduceLeDiff, Nat.reducePow, Nat.reduceEqDiff, ↓reduceIte, reduceCtorEq, Int.reduceToNat]
    first | exact again_mk ⟨1, by omega, by omega, rfl⟩ | done
  · have q3 := fun m m' => put1_any a.h1 130 (l4 a.d1) (dnsO a O2 1) (by have := n3 1; omega) m m'
    have e3 : dnsO a O2 1 ++ optB a.h1 130 (l4 a.d1) = dnsO a O2 2 := rfl
    rw [e3] at q3
    generalize dnsO a O2 1 = OA at *
    unfold outS at q3
    simp (maxSteps := 400000) -dsimp -implicitDefEqProofs (disch := first | exact TrueB.mk rfl | omega) only [go_sem, Nat.reduceMul, Nat.reduceAdd, Nat.reduceLT, Nat.reduceLeDiff, Nat.reducePow, Nat.reduceEqDiff, ↓reduceIte, reduceCtorEq, Int.reduceToNat]
    refine wpAct_callS [1425, 1426] (q3 _ _) rfl rfl rfl rfl rfl rfl rfl rfl rfl rfl ?_
    simp (maxSteps := 400000) -dsimp -implicitDefEqProofs (disch := first | exact TrueB.mk rfl | omega) only [go_sem, Nat.reduceMul, Nat.reduceAdd, Nat.reduceLT, Nat.reduceLeDiff, Nat.reducePow, Nat.reduceEqDiff, ↓reduceIte, reduceCtorEq, Int.reduceToNat]
    first | exact again_mk ⟨2, by omega, by omega, rfl⟩ | done
  · have q3 := fun m m' => put1_any a.h2 131 (l4 a.d2) (dnsO a O2 2) (by have := n3 2; omega) m m'
    have e3 : dnsO a O2 2 ++ optB a.h2 131 (l4 a.d2) = dnsO a O2 3 := rfl
    rw [e3] at q3
    generalize dnsO a O2 2 = OA at *
    unfold outS at q3
    simp (maxSteps := 400000) -dsimp -implicitDefEqProofs (disch := first | exact TrueB.mk rfl | omega) only [go_sem, Nat.reduceMul, Nat.reduceAdd, Nat.reduceLT, Nat.reduceLeDiff, Nat.reducePow, Nat.reduceEqDiff, ↓reduceIte, reduceCtorEq, Int.reduceToNat]
    refine wpAct_callS [1425, 1426] (q3 _ _) rfl rfl rfl rfl rfl rfl rfl rfl rfl rfl ?_
    simp (maxSteps := 400000) -dsimp -implicitDefEqProofs (disch := first | exact TrueB.mk rfl | omega) only [go_sem, Nat.reduceMul, Nat.reduceAdd, Nat.reduceLT, Nat.reduceLeDiff, Nat.reducePow, Nat.reduceEqDiff, ↓reduceIte, reduceCtorEq, Int.reduceToNat]
    first | exact again_mk ⟨3, by omega, by omega, rfl⟩ | done
  · have q3 := fun m m' => put1_any a.h3 132 (l4 a.d3) (dnsO a O2 3) (by have := n3 3; omega) m m'
    have e3 : dnsO a O2 3 ++ optB a.h3 132 (l4 a.d3) = dnsO a O2 4 := rfl
    rw [e3] at q3
    generalize dnsO a O2 3 = OA at *
    unfold outS at q3
    simp (maxSteps := 400000) -dsimp -implicitDefEqProofs (disch := first | exact TrueB.mk rfl | omega) only [go_sem, Nat.reduceMul, Nat.reduceAdd, Nat.reduceLT, Nat.reduceLeDiff, Nat.reducePow, Nat.reduceEqDiff, ↓reduceIte, reduceCtorEq, Int.reduceToNat]
    refine wpAct_callS [1425, 1426] (q3 _ _) rfl rfl rfl rfl rfl rfl rfl rfl rfl rfl ?_
    simp (maxSteps := 400000) -dsimp -implicitDefEqProofs (disch := first | exact TrueB.mk rfl | omega) only [go_sem, Nat.reduceMul, Nat.reduceAdd, Nat.reduceLT, Nat.reduceLeDiff, Nat.reducePow, Nat.reduceEqDiff, ↓reduceIte, reduceCtorEq, Int.reduceToNat]
    first | exact again_mk ⟨4, by omega, by omega, rfl⟩ | done
  · generalize hO4 : dnsO a O2 4 = O4 at *
    simp (maxSteps := 400000) -dsimp -implicitDefEqProofs (disch := first | exact TrueB.mk rfl | omega) only [go_sem, Nat.reduceMul, Nat.reduceAdd, Nat.reduceLT, Nat.reduceLeDiff, Nat.reducePow, Nat.reduceEqDiff, ↓reduceIte, reduceCtorEq, Int.reduceToNat]
    refine wpAct_callF (cR _ _) rfl rfl rfl rfl (argV_p rfl (argV_r rfl (optsV_length (O4)).symm argV_nil)) rfl (newV_adr fl R.1 R.2) rfl rfl ?_
    cases h2 : R.2 with
    | false =>
      simp (maxSteps := 400000) -dsimp -implicitDefEqProofs (disch := first | exact TrueB.mk rfl | omega) only [go_sem, Nat.reduceMul, Nat.reduceAdd, Nat.reduceLT, Nat.reduceLeDiff, Nat.reducePow, Nat.reduceEqDiff, ↓reduceIte, reduceCtorEq, Int.reduceToNat, h2]
      first | exact end_ov (out := []) rfl rfl rfl | done
    | true =>
    cases h3 : adrEq R.1 a with
    | false =>
      simp (maxSteps := 400000) -dsimp -implicitDefEqProofs (disch := first | exact TrueB.mk rfl | omega) only [go_sem, Nat.reduceMul, Nat.reduceAdd, Nat.reduceLT, Nat.reduceLeDiff, Nat.reducePow, Nat.reduceEqDiff, ↓reduceIte, reduceCtorEq, Int.reduceToNat, h2, hfold, h3]
      first | exact end_ov (out := []) rfl rfl rfl | done
    | true =>
    simp (maxSteps := 400000) -dsimp -implicitDefEqProofs (disch := first | exact TrueB.mk rfl | omega) only [go_sem, Nat.reduceMul, Nat.reduceAdd, Nat.reduceLT, Nat.reduceLeDiff, Nat.reducePow, Nat.reduceEqDiff, ↓reduceIte, reduceCtorEq, Int.reduceToNat, h2, hfold, h3]
    first | exact end_of rfl rfl rfl | done

set_option maxHeartbeats 16000000 in
theorem put_ipcp1 {a : Adr} (s0 : 0 ≤ a.slots) (s1 : a.slots ≤ 255) (hv : a.vjId = true) (m : Bool) : putS 32801 a (dnsO a ([] ++ optB a.hasVj 2 [0, 45, UInt8.ofNat a.slots.toNat, 1] ++ optB a.hasIp 3 (l4 a.ip)) 4) m := by
  have cR := fun m m' => readA_any 32801 (dnsO a ([] ++ optB a.hasVj 2 [0, 45, UInt8.ofNat a.slots.toNat, 1] ++ optB a.hasIp 3 (l4 a.ip)) 4) (by have := dns_len a ([] ++ optB a.hasVj 2 [0, 45, UInt8.ofNat a.slots.toNat, 1] ++ optB a.hasIp 3 (l4 a.ip)) 4; have := optB_len a.hasVj 2 [0, 45, UInt8.ofNat a.slots.toNat, 1]; have := optB_len a.hasIp 3 (l4 a.ip); simp only [List.length_append, List.length_nil] at *; omega) m m'
  unfold putS putR putOk
  generalize readA 32801 (dnsO a ([] ++ optB a.hasVj 2 [0, 45, UInt8.ofNat a.slots.toNat, 1] ++ optB a.hasIp 3 (l4 a.ip)) 4) = R at *
  generalize flR 32801 (dnsO a ([] ++ optB a.hasVj 2 [0, 45, UInt8.ofNat a.slots.toNat, 1] ++ optB a.hasIp 3 (l4 a.ip)) 4) = fl at *
  have hfold := adrEq_fold R.1 a
  unfold adrV at *
  simp only [hv, Bool.decide_eq_false, Bool.decide_eq_true] at hfold
  have ws : IntKind.u8.wrap a.slots = ((UInt8.ofNat a.slots.toNat).toNat : Int) := by
    rw [UInt8.toNat_ofNat_of_lt' (by show _ < 256; omega), wrap_u8 (by omega) (by omega)]
    omega
  have q1 := fun m m' => put1_any a.hasVj 2 [0, 45, UInt8.ofNat a.slots.toNat, 1] [] (by simp) m m'
  have q2 := fun h m m' => put1_any a.hasIp 3 (l4 a.ip) ([] ++ optB a.hasVj 2 [0, 45, UInt8.ofNat a.slots.toNat, 1]) h m m'
  have n1 : ([] ++ optB a.hasVj 2 [0, 45, UInt8.ofNat a.slots.toNat, 1]).length ≤ 1 := by have := optB_len a.hasVj 2 [0, 45, UInt8.ofNat a.slots.toNat, 1]; simpa using this
  generalize hO1 : [] ++ optB a.hasVj 2 [0, 45, UInt8.ofNat a.slots.toNat, 1] = O1 at *
  have n2 : (O1 ++ optB a.hasIp 3 (l4 a.ip)).length ≤ 2 := by have := optB_len a.hasIp 3 (l4 a.ip); rw [List.length_append]; omega
  generalize hO2 : O1 ++ optB a.hasIp 3 (l4 a.ip) = O2 at *
  unfold outS at q1 q2
  refine Runs.of Try.func61 rfl (by simp [Try.ntmps61]) ?_
  simp (maxSteps := 400000) -dsimp -implicitDefEqProofs (disch := first | exact TrueB.mk rfl | omega) only [go_sem, Nat.reduceMul, Nat.reduceAdd, Nat.reduceLT, Nat.reduceLeDiff, Nat.reducePow, Nat.reduceEqDiff, ↓reduceIte, reduceCtorEq, Int.reduceToNat, Try.ntmps61, hv, ws]
  refine wpAct_callS [96, 97] (q1 _ _) rfl rfl rfl rfl (argV_p rfl (argV_p rfl (argV_r rfl rfl (argV_p rfl argV_nil)))) rfl rfl rfl rfl rfl ?_
  simp (maxSteps := 400000) -dsimp -implicitDefEqProofs (disch := first | exact TrueB.mk rfl | omega) only [go_sem, Nat.reduceMul, Nat.reduceAdd, Nat.reduceLT, Nat.reduceLeDiff, Nat.reducePow, Nat.reduceEqDiff, ↓reduceIte, reduceCtorEq, Int.reduceToNat, hv]
  refine wpAct_callS [96, 97] (q2 (by omega) _ _) rfl rfl rfl rfl rfl rfl rfl rfl rfl rfl ?_
  simp (maxSteps := 400000) -dsimp -implicitDefEqProofs (disch := first | exact TrueB.mk rfl | omega) only [go_sem, Nat.reduceMul, Nat.reduceAdd, Nat.reduceLT, Nat.reduceLeDiff, Nat.reducePow, Nat.reduceEqDiff, ↓reduceIte, reduceCtorEq, Int.reduceToNat, hv]
  have n3 := fun i => dns_len a O2 i
  refine wpLoop_ind (α := Nat)
    (fun i => ⟨[(0, .pure m (.int .i64 32801)), (3, .ptr 1424 0), (6, .ptr 1425 0), (7, .clo 90 [.ptr 1425 0]), (52, .pure false (.agg [.bool a.h0, .bool a.h1, .bool a.h2, .bool a.h3])), (53, .pure true (.int .i64 i))], [(1424, .fbox false [.bool a.hasIp, .int .u8 (a.ip.a.toNat : Int), .int .u8 (a.ip.b.toNat : Int), .int .u8 (a.ip.c.toNat : Int), .int .u8 (a.ip.d.toNat : Int), .bool a.hasVj, .int .i64 a.slots, .bool true, .bool a.h0, .bool a.h1, .bool a.h2, .bool a.h3, .int .u8 (a.d0.a.toNat : Int), .int .u8 (a.d0.b.toNat : Int), .int .u8 (a.d0.c.toNat : Int), .int .u8 (a.d0.d.toNat : Int), .int .u8 (a.d1.a.toNat : Int), .int .u8 (a.d1.b.toNat : Int), .int .u8 (a.d1.c.toNat : Int), .int .u8 (a.d1.d.toNat : Int), .int .u8 (a.d2.a.toNat : Int), .int .u8 (a.d2.b.toNat : Int), .int .u8 (a.d2.c.toNat : Int), .int .u8 (a.d2.d.toNat : Int), .int .u8 (a.d3.a.toNat : Int), .int .u8 (a.d3.b.toNat : Int), .int .u8 (a.d3.c.toNat : Int), .int .u8 (a.d3.d.toNat : Int), .bool a.hasId, .int .u8 (a.id.a.toNat : Int), .int .u8 (a.id.b.toNat : Int), .int .u8 (a.id.c.toNat : Int), .int .u8 (a.id.d.toNat : Int), .int .u8 (a.id.e.toNat : Int), .int .u8 (a.id.f.toNat : Int), .int .u8 (a.id.g.toNat : Int), .int .u8 (a.id.h.toNat : Int)]), (1425, .box [.row 1426 (dnsO a O2 i).length]), (1426, .row false (zOf (dnsO a O2 i)) ((dnsO a O2 i).length - 1) (optsV (dnsO a O2 i)))]⟩)
    (fun i => i ≤ 4) (fun i => 4 - i) ?_ 0 (by omega) rfl
  rintro i hi
  have hii : i = 0 ∨ i = 1 ∨ i = 2 ∨ i = 3 ∨ i = 4 := by omega
  rcases hii with rfl | rfl | rfl | rfl | rfl
  · have q3 := fun m m' => put1_any a.h0 129 (l4 a.d0) (dnsO a O2 0) (by have := n3 0; omega) m m'
    have e3 : dnsO a O2 0 ++ optB a.h0 129 (l4 a.d0) = dnsO a O2 1 := rfl
    rw [e3] at q3
    generalize dnsO a O2 0 = OA at *
    unfold outS at q3
    simp (maxSteps := 400000) -dsimp -implicitDefEqProofs (disch := first | exact TrueB.mk rfl | omega) only [go_sem, Nat.reduceMul, Nat.reduceAdd, Nat.reduceLT, Nat.reduceLeDiff, Nat.reducePow, Nat.reduceEqDiff, ↓reduceIte, reduceCtorEq, Int.reduceToNat]
    refine wpAct_callS [1425, 1426] (q3 _ _) rfl rfl rfl rfl rfl rfl rfl rfl rfl rfl ?_
    simp (maxSteps := 400000) -dsimp -implicitDefEqProofs (disch := first | exact TrueB.mk rfl | omega) only [go_sem, Nat.reduceMul, Nat.reduceAdd, Nat.reduceLT, Nat.reduceLeDiff, Nat.reducePow, Nat.reduceEqDiff, ↓reduceIte, reduceCtorEq, Int.reduceToNat]
    first | exact again_mk ⟨1, by omega, by omega, rfl⟩ | done
  · have q3 := fun m m' => put1_any a.h1 130 (l4 a.d1) (dnsO a O2 1) (by have := n3 1; omega) m m'
    have e3 : dnsO a O2 1 ++ optB a.h1 130 (l4 a.d1) = dnsO a O2 2 := rfl
    rw [e3] at q3
    generalize dnsO a O2 1 = OA at *
    unfold outS at q3
    simp (maxSteps := 400000) -dsimp -implicitDefEqProofs (disch := first | exact TrueB.mk rfl | omega) only [go_sem, Nat.reduceMul, Nat.reduceAdd, Nat.reduceLT, Nat.reduceLeDiff, Nat.reducePow, Nat.reduceEqDiff, ↓reduceIte, reduceCtorEq, Int.reduceToNat]
    refine wpAct_callS [1425, 1426] (q3 _ _) rfl rfl rfl rfl rfl rfl rfl rfl rfl rfl ?_
    simp (maxSteps := 400000) -dsimp -implicitDefEqProofs (disch := first | exact TrueB.mk rfl | omega) only [go_sem, Nat.reduceMul, Nat.reduceAdd, Nat.reduceLT, Nat.reduceLeDiff, Nat.reducePow, Nat.reduceEqDiff, ↓reduceIte, reduceCtorEq, Int.reduceToNat]
    first | exact again_mk ⟨2, by omega, by omega, rfl⟩ | done
  · have q3 := fun m m' => put1_any a.h2 131 (l4 a.d2) (dnsO a O2 2) (by have := n3 2; omega) m m'
    have e3 : dnsO a O2 2 ++ optB a.h2 131 (l4 a.d2) = dnsO a O2 3 := rfl
    rw [e3] at q3
    generalize dnsO a O2 2 = OA at *
    unfold outS at q3
    simp (maxSteps := 400000) -dsimp -implicitDefEqProofs (disch := first | exact TrueB.mk rfl | omega) only [go_sem, Nat.reduceMul, Nat.reduceAdd, Nat.reduceLT, Nat.reduceLeDiff, Nat.reducePow, Nat.reduceEqDiff, ↓reduceIte, reduceCtorEq, Int.reduceToNat]
    refine wpAct_callS [1425, 1426] (q3 _ _) rfl rfl rfl rfl rfl rfl rfl rfl rfl rfl ?_
    simp (maxSteps := 400000) -dsimp -implicitDefEqProofs (disch := first | exact TrueB.mk rfl | omega) only [go_sem, Nat.reduceMul, Nat.reduceAdd, Nat.reduceLT, Nat.reduceLeDiff, Nat.reducePow, Nat.reduceEqDiff, ↓reduceIte, reduceCtorEq, Int.reduceToNat]
    first | exact again_mk ⟨3, by omega, by omega, rfl⟩ | done
  · have q3 := fun m m' => put1_any a.h3 132 (l4 a.d3) (dnsO a O2 3) (by have := n3 3; omega) m m'
    have e3 : dnsO a O2 3 ++ optB a.h3 132 (l4 a.d3) = dnsO a O2 4 := rfl
    rw [e3] at q3
    generalize dnsO a O2 3 = OA at *
    unfold outS at q3
    simp (maxSteps := 400000) -dsimp -implicitDefEqProofs (disch := first | exact TrueB.mk rfl | omega) only [go_sem, Nat.reduceMul, Nat.reduceAdd, Nat.reduceLT, Nat.reduceLeDiff, Nat.reducePow, Nat.reduceEqDiff, ↓reduceIte, reduceCtorEq, Int.reduceToNat]
    refine wpAct_callS [1425, 1426] (q3 _ _) rfl rfl rfl rfl rfl rfl rfl rfl rfl rfl ?_
    simp (maxSteps := 400000) -dsimp -implicitDefEqProofs (disch := first | exact TrueB.mk rfl | omega) only [go_sem, Nat.reduceMul, Nat.reduceAdd, Nat.reduceLT, Nat.reduceLeDiff, Nat.reducePow, Nat.reduceEqDiff, ↓reduceIte, reduceCtorEq, Int.reduceToNat]
    first | exact again_mk ⟨4, by omega, by omega, rfl⟩ | done
  · generalize hO4 : dnsO a O2 4 = O4 at *
    simp (maxSteps := 400000) -dsimp -implicitDefEqProofs (disch := first | exact TrueB.mk rfl | omega) only [go_sem, Nat.reduceMul, Nat.reduceAdd, Nat.reduceLT, Nat.reduceLeDiff, Nat.reducePow, Nat.reduceEqDiff, ↓reduceIte, reduceCtorEq, Int.reduceToNat]
    refine wpAct_callF (cR _ _) rfl rfl rfl rfl (argV_p rfl (argV_r rfl (optsV_length (O4)).symm argV_nil)) rfl (newV_adr fl R.1 R.2) rfl rfl ?_
    cases h2 : R.2 with
    | false =>
      simp (maxSteps := 400000) -dsimp -implicitDefEqProofs (disch := first | exact TrueB.mk rfl | omega) only [go_sem, Nat.reduceMul, Nat.reduceAdd, Nat.reduceLT, Nat.reduceLeDiff, Nat.reducePow, Nat.reduceEqDiff, ↓reduceIte, reduceCtorEq, Int.reduceToNat, h2]
      first | exact end_ov (out := []) rfl rfl rfl | done
    | true =>
    cases h3 : adrEq R.1 a with
    | false =>
      simp (maxSteps := 400000) -dsimp -implicitDefEqProofs (disch := first | exact TrueB.mk rfl | omega) only [go_sem, Nat.reduceMul, Nat.reduceAdd, Nat.reduceLT, Nat.reduceLeDiff, Nat.reducePow, Nat.reduceEqDiff, ↓reduceIte, reduceCtorEq, Int.reduceToNat, h2, hfold, h3]
      first | exact end_ov (out := []) rfl rfl rfl | done
    | true =>
    simp (maxSteps := 400000) -dsimp -implicitDefEqProofs (disch := first | exact TrueB.mk rfl | omega) only [go_sem, Nat.reduceMul, Nat.reduceAdd, Nat.reduceLT, Nat.reduceLeDiff, Nat.reducePow, Nat.reduceEqDiff, ↓reduceIte, reduceCtorEq, Int.reduceToNat, h2, hfold, h3]
    first | exact end_of rfl rfl rfl | done
end Go.Proofs.Ytpgklagjjimbhaa
