/- YtpgklagjjimbhaaN: packets are put and read. No claim. -/
import Derived.Test.YtpgklagjjimbhaaM
set_option linter.unusedVariables false
set_option linter.unusedSimpArgs false
set_option maxRecDepth 100000
namespace Go.Proofs.Ytpgklagjjimbhaa
open Go Go.Proofs.Ytpgklagjjimbhaa.V

abbrev Pkt := Int × Int × List UInt8
def pktV (p : Pkt) : PV := .agg [.int .i64 p.1, .int .i64 p.2.1, .sl (bytesOf p.2.2)]
theorem pkt_beq (a b : Pkt) : (a == b) = (a.1 == b.1 && (a.2.1 == b.2.1 && a.2.2 == b.2.2)) := rfl

set_option maxHeartbeats 4000000 in
theorem pktSame_any (a b : Pkt) (m m' : Bool) : Runs Try.prog env 47 [.pure m (pktV a), .pure m' (pktV b)] [] (.pure true (.bool (a == b))) [] := by
  refine Runs.of Try.func47 rfl (by simp [Try.ntmps47]) ?_
  rw [pkt_beq]
  unfold pktV
  simp (maxSteps := 400000) -dsimp -implicitDefEqProofs (disch := first | exact TrueB.mk rfl | omega) only [go_sem, Nat.reduceMul, Nat.reduceAdd, Nat.reduceLT, Nat.reduceLeDiff, Nat.reducePow, Nat.reduceEqDiff, ↓reduceIte, reduceCtorEq, Int.reduceToNat, Try.ntmps47]
  first | refine condK_dec (fun h => ?_) (fun h => ?_) | refine condK_ndec (fun h => ?_) (fun h => ?_) | refine condK_beq (fun h => ?_) (fun h => ?_) | refine condK_bne (fun h => ?_) (fun h => ?_) | refine condK_nbeq (fun h => ?_) (fun h => ?_) | refine guardK_dec (fun h => ?_) (fun h => ?_) | refine guardK_ndec (fun h => ?_) (fun h => ?_) | refine guardK_beq (fun h => ?_) (fun h => ?_) | refine guardK_bne (fun h => ?_) (fun h => ?_) | refine guardK_nbeq (fun h => ?_) (fun h => ?_) | refine condK_not (fun h => ?_) (fun h => ?_) | refine guardK_not (fun h => ?_) (fun h => ?_) | refine condK_bool (fun h => ?_) (fun h => ?_) | refine guardK_bool (fun h => ?_) (fun h => ?_) | done
  · simp (maxSteps := 400000) -dsimp -implicitDefEqProofs (disch := first | exact TrueB.mk rfl | omega) only [go_sem, Nat.reduceMul, Nat.reduceAdd, Nat.reduceLT, Nat.reduceLeDiff, Nat.reducePow, Nat.reduceEqDiff, ↓reduceIte, reduceCtorEq, Int.reduceToNat]
    first | refine condK_dec (fun h2 => ?_) (fun h2 => ?_) | refine condK_ndec (fun h2 => ?_) (fun h2 => ?_) | refine condK_beq (fun h2 => ?_) (fun h2 => ?_) | refine condK_bne (fun h2 => ?_) (fun h2 => ?_) | refine condK_nbeq (fun h2 => ?_) (fun h2 => ?_) | refine guardK_dec (fun h2 => ?_) (fun h2 => ?_) | refine guardK_ndec (fun h2 => ?_) (fun h2 => ?_) | refine guardK_beq (fun h2 => ?_) (fun h2 => ?_) | refine guardK_bne (fun h2 => ?_) (fun h2 => ?_) | refine guardK_nbeq (fun h2 => ?_) (fun h2 => ?_) | refine condK_not (fun h2 => ?_) (fun h2 => ?_) | refine guardK_not (fun h2 => ?_) (fun h2 => ?_) | refine condK_bool (fun h2 => ?_) (fun h2 => ?_) | refine guardK_bool (fun h2 => ?_) (fun h2 => ?_) | done
    · simp (maxSteps := 400000) -dsimp -implicitDefEqProofs (disch := first | exact TrueB.mk rfl | omega) only [go_sem, Nat.reduceMul, Nat.reduceAdd, Nat.reduceLT, Nat.reduceLeDiff, Nat.reducePow, Nat.reduceEqDiff, ↓reduceIte, reduceCtorEq, Int.reduceToNat]
      first | refine wpAct_call0 (equal_any a.2.2 b.2.2 _ _) rfl rfl rfl rfl rfl rfl rfl rfl ?_ | done
      simp (maxSteps := 400000) -dsimp -implicitDefEqProofs (disch := first | exact TrueB.mk rfl | omega) only [go_sem, Nat.reduceMul, Nat.reduceAdd, Nat.reduceLT, Nat.reduceLeDiff, Nat.reducePow, Nat.reduceEqDiff, ↓reduceIte, reduceCtorEq, Int.reduceToNat]
      first | exact end_bool rfl (by simp [h, h2]) | done
    · simp (maxSteps := 400000) -dsimp -implicitDefEqProofs (disch := first | exact TrueB.mk rfl | omega) only [go_sem, Nat.reduceMul, Nat.reduceAdd, Nat.reduceLT, Nat.reduceLeDiff, Nat.reducePow, Nat.reduceEqDiff, ↓reduceIte, reduceCtorEq, Int.reduceToNat]
      first | exact end_bool rfl (by simp [h2]) | done
  · simp (maxSteps := 400000) -dsimp -implicitDefEqProofs (disch := first | exact TrueB.mk rfl | omega) only [go_sem, Nat.reduceMul, Nat.reduceAdd, Nat.reduceLT, Nat.reduceLeDiff, Nat.reducePow, Nat.reduceEqDiff, ↓reduceIte, reduceCtorEq, Int.reduceToNat]
    first | exact end_bool rfl (by simp [h]) | done
set_option maxHeartbeats 4000000 in
theorem refPktSame_any (a b : Pkt) (m m' : Bool) : Runs Try.prog env 46 [.pure m (pktV a), .pure m' (pktV b)] [] (.pure true (.bool (a == b))) [] := by
  refine Runs.of Try.func46 rfl (by simp [Try.ntmps46]) ?_
  rw [pkt_beq]
  unfold pktV
  simp (maxSteps := 400000) -dsimp -implicitDefEqProofs (disch := first | exact TrueB.mk rfl | omega) only [go_sem, Nat.reduceMul, Nat.reduceAdd, Nat.reduceLT, Nat.reduceLeDiff, Nat.reducePow, Nat.reduceEqDiff, ↓reduceIte, reduceCtorEq, Int.reduceToNat, Try.ntmps46]
  first | refine condK_dec (fun h => ?_) (fun h => ?_) | refine condK_ndec (fun h => ?_) (fun h => ?_) | refine condK_beq (fun h => ?_) (fun h => ?_) | refine condK_bne (fun h => ?_) (fun h => ?_) | refine condK_nbeq (fun h => ?_) (fun h => ?_) | refine guardK_dec (fun h => ?_) (fun h => ?_) | refine guardK_ndec (fun h => ?_) (fun h => ?_) | refine guardK_beq (fun h => ?_) (fun h => ?_) | refine guardK_bne (fun h => ?_) (fun h => ?_) | refine guardK_nbeq (fun h => ?_) (fun h => ?_) | refine condK_not (fun h => ?_) (fun h => ?_) | refine guardK_not (fun h => ?_) (fun h => ?_) | refine condK_bool (fun h => ?_) (fun h => ?_) | refine guardK_bool (fun h => ?_) (fun h => ?_) | done
  · simp (maxSteps := 400000) -dsimp -implicitDefEqProofs (disch := first | exact TrueB.mk rfl | omega) only [go_sem, Nat.reduceMul, Nat.reduceAdd, Nat.reduceLT, Nat.reduceLeDiff, Nat.reducePow, Nat.reduceEqDiff, ↓reduceIte, reduceCtorEq, Int.reduceToNat]
    first | refine condK_dec (fun h2 => ?_) (fun h2 => ?_) | refine condK_ndec (fun h2 => ?_) (fun h2 => ?_) | refine condK_beq (fun h2 => ?_) (fun h2 => ?_) | refine condK_bne (fun h2 => ?_) (fun h2 => ?_) | refine condK_nbeq (fun h2 => ?_) (fun h2 => ?_) | refine guardK_dec (fun h2 => ?_) (fun h2 => ?_) | refine guardK_ndec (fun h2 => ?_) (fun h2 => ?_) | refine guardK_beq (fun h2 => ?_) (fun h2 => ?_) | refine guardK_bne (fun h2 => ?_) (fun h2 => ?_) | refine guardK_nbeq (fun h2 => ?_) (fun h2 => ?_) | refine condK_not (fun h2 => ?_) (fun h2 => ?_) | refine guardK_not (fun h2 => ?_) (fun h2 => ?_) | refine condK_bool (fun h2 => ?_) (fun h2 => ?_) | refine guardK_bool (fun h2 => ?_) (fun h2 => ?_) | done
    · simp (maxSteps := 400000) -dsimp -implicitDefEqProofs (disch := first | exact TrueB.mk rfl | omega) only [go_sem, Nat.reduceMul, Nat.reduceAdd, Nat.reduceLT, Nat.reduceLeDiff, Nat.reducePow, Nat.reduceEqDiff, ↓reduceIte, reduceCtorEq, Int.reduceToNat]
      first | exact end_bool rfl (by simp [h, h2]) | done
    · simp (maxSteps := 400000) -dsimp -implicitDefEqProofs (disch := first | exact TrueB.mk rfl | omega) only [go_sem, Nat.reduceMul, Nat.reduceAdd, Nat.reduceLT, Nat.reduceLeDiff, Nat.reducePow, Nat.reduceEqDiff, ↓reduceIte, reduceCtorEq, Int.reduceToNat]
      first | exact end_bool rfl (by simp [h2]) | done
  · simp (maxSteps := 400000) -dsimp -implicitDefEqProofs (disch := first | exact TrueB.mk rfl | omega) only [go_sem, Nat.reduceMul, Nat.reduceAdd, Nat.reduceLT, Nat.reduceLeDiff, Nat.reducePow, Nat.reduceEqDiff, ↓reduceIte, reduceCtorEq, Int.reduceToNat]
    first | exact end_bool rfl (by simp [h]) | done

theorem fdiv_256 (n : Nat) : ((n : Nat) : Int).fdiv (2 ^ min 8 64) = ((n / 256 : Nat) : Int) := by
  rw [Int.fdiv_eq_ediv_of_nonneg _ (by decide)]
  show (n : Int) / 256 = _
  omega
theorem wrap_u8m (n : Nat) : IntKind.u8.wrap (n : Int) = ((n % 256 : Nat) : Int) := by
  simp only [IntKind.wrap, IntKind.bits, IntKind.signed]
  show (_ : Int) = _
  simp
theorem row_4 (m : Bool) (z lim : Nat) (a b c d : UInt8) : Ob.row m z lim [PV.int .u8 (a.toNat : Int), PV.int .u8 (b.toNat : Int), PV.int .u8 (c.toNat : Int), PV.int .u8 (d.toNat : Int)] = Ob.row m z lim (bytesOf [a, b, c, d]) := rfl

/-- Why a packet may not be (0: it may), and its bytes. -/
def badP (p : Pkt) : Nat := if p.1 < 0 ∨ 255 < p.1 ∨ p.2.1 < 0 ∨ 255 < p.2.1 then 1 else if 65531 < p.2.2.length then 4 else 0
def putP (p : Pkt) : List UInt8 := if badP p = 0 then UInt8.ofNat p.1.toNat :: UInt8.ofNat p.2.1.toNat :: UInt8.ofNat ((4 + p.2.2.length) / 256) :: UInt8.ofNat ((4 + p.2.2.length) % 256) :: p.2.2 else []
theorem good_pkt {p : Pkt} (h : badP p = 0) : ∃ c i u l : UInt8, p.1 = c.toNat ∧ p.2.1 = i.toNat ∧ (4 + p.2.2.length) / 256 = u.toNat ∧ (4 + p.2.2.length) % 256 = l.toNat ∧ putP p = [c, i, u, l] ++ p.2.2 ∧ p.2.2.length ≤ 65531 := by
  have hb : badP p = if p.1 < 0 ∨ 255 < p.1 ∨ p.2.1 < 0 ∨ 255 < p.2.1 then 1 else if 65531 < p.2.2.length then 4 else 0 := rfl
  rw [h] at hb
  split at hb
  · cases hb
  · split at hb
    · cases hb
    · refine ⟨UInt8.ofNat p.1.toNat, UInt8.ofNat p.2.1.toNat, UInt8.ofNat ((4 + p.2.2.length) / 256), UInt8.ofNat ((4 + p.2.2.length) % 256), ?_, ?_, ?_, ?_, ?_, by omega⟩
      · rw [UInt8.toNat_ofNat_of_lt' (by show _ < 256; omega)]; omega
      · rw [UInt8.toNat_ofNat_of_lt' (by show _ < 256; omega)]; omega
      · rw [UInt8.toNat_ofNat_of_lt' (by show _ < 256; omega)]
      · rw [UInt8.toNat_ofNat_of_lt' (by show _ < 256; omega)]
      · unfold putP; rw [if_pos h]; rfl

set_option maxHeartbeats 8000000 in
theorem pktPut_any (p : Pkt) (hp : p.2.2.length ≤ 100000000) (m : Bool) : ∃ z, (z = 1 ∨ putP p = []) ∧ Runs Try.prog env 42 [.pure m (pktV p)] [] (.tuple [.row 0 (putP p).length, .pure true (.int .i64 (badP p : Nat))]) [(0, .row true z 0 (bytesOf (putP p)))] := by
  refine ⟨if badP p = 0 then 1 else 0, ?_, ?_⟩
  · unfold putP
    by_cases h : badP p = 0
    · rw [if_pos h]; exact .inl rfl
    · rw [if_neg h, if_neg h]; exact .inr rfl
  refine Runs.of Try.func42 rfl (by simp [Try.ntmps42]) ?_
  have hb : badP p = if p.1 < 0 ∨ 255 < p.1 ∨ p.2.1 < 0 ∨ 255 < p.2.1 then 1 else if 65531 < p.2.2.length then 4 else 0 := rfl
  unfold pktV
  by_cases h1 : p.1 < 0 ∨ 255 < p.1 ∨ p.2.1 < 0 ∨ 255 < p.2.1
  · rw [if_pos h1] at hb
    have e : putP p = [] := by unfold putP; rw [if_neg (by omega)]
    rw [e, hb]
    rcases Classical.em (p.1 < 0) with q1 | q1
    · simp (maxSteps := 400000) -dsimp -implicitDefEqProofs (disch := first | exact TrueB.mk rfl | omega) only [go_sem, Nat.reduceMul, Nat.reduceAdd, Nat.reduceLT, Nat.reduceLeDiff, Nat.reducePow, Nat.reduceEqDiff, ↓reduceIte, reduceCtorEq, Int.reduceToNat, Try.ntmps42]
      first | exact end_row2 rfl rfl rfl rfl rfl rfl rfl | done
    · rcases Classical.em (255 < p.1) with q2 | q2
      · simp (maxSteps := 400000) -dsimp -implicitDefEqProofs (disch := first | exact TrueB.mk rfl | omega) only [go_sem, Nat.reduceMul, Nat.reduceAdd, Nat.reduceLT, Nat.reduceLeDiff, Nat.reducePow, Nat.reduceEqDiff, ↓reduceIte, reduceCtorEq, Int.reduceToNat, Try.ntmps42]
        first | exact end_row2 rfl rfl rfl rfl rfl rfl rfl | done
      · rcases Classical.em (p.2.1 < 0) with q3 | q3
        · simp (maxSteps := 400000) -dsimp -implicitDefEqProofs (disch := first | exact TrueB.mk rfl | omega) only [go_sem, Nat.reduceMul, Nat.reduceAdd, Nat.reduceLT, Nat.reduceLeDiff, Nat.reducePow, Nat.reduceEqDiff, ↓reduceIte, reduceCtorEq, Int.reduceToNat, Try.ntmps42]
          first | exact end_row2 rfl rfl rfl rfl rfl rfl rfl | done
        · simp (maxSteps := 400000) -dsimp -implicitDefEqProofs (disch := first | exact TrueB.mk rfl | omega) only [go_sem, Nat.reduceMul, Nat.reduceAdd, Nat.reduceLT, Nat.reduceLeDiff, Nat.reducePow, Nat.reduceEqDiff, ↓reduceIte, reduceCtorEq, Int.reduceToNat, Try.ntmps42]
          first | exact end_row2 rfl rfl rfl rfl rfl rfl rfl | done
  · rw [if_neg h1] at hb
    by_cases h2 : 65531 < p.2.2.length
    · rw [if_pos h2] at hb
      have e : putP p = [] := by unfold putP; rw [if_neg (by omega)]
      rw [e, hb]
      simp (maxSteps := 400000) -dsimp -implicitDefEqProofs (disch := first | exact TrueB.mk rfl | omega) only [go_sem, Nat.reduceMul, Nat.reduceAdd, Nat.reduceLT, Nat.reduceLeDiff, Nat.reducePow, Nat.reduceEqDiff, ↓reduceIte, reduceCtorEq, Int.reduceToNat, Try.ntmps42]
      first | exact end_row2 rfl rfl rfl rfl rfl rfl rfl | done
    · rw [if_neg h2] at hb
      obtain ⟨c, i, u, l, e1, e2, e3, e4, e5, e6⟩ := good_pkt hb
      rw [e5, hb]
      have hc := c.toNat_lt
      have hi := i.toNat_lt
      have hu := u.toNat_lt
      have hl := l.toNat_lt
      rw [e1, e2] at h1 ⊢
      have e7 : (4 : Int) + (p.2.2.length : Int) = ((4 + p.2.2.length : Nat) : Int) := by omega
      have e8 : ((4 + p.2.2.length : Nat) : Int).fdiv (2 ^ min 8 64) = (u.toNat : Int) := by rw [← e3]; exact fdiv_256 _
      have e9 : IntKind.u8.wrap ((4 + p.2.2.length : Nat) : Int) = (l.toNat : Int) := by rw [← e4]; exact wrap_u8m _
      have e10 : ([c, i, u, l] ++ p.2.2).length = 4 + p.2.2.length := by rw [List.length_append]; rfl
      rw [e10]
      simp (maxSteps := 400000) -dsimp -implicitDefEqProofs (disch := first | exact TrueB.mk rfl | omega) only [go_sem, Nat.reduceMul, Nat.reduceAdd, Nat.reduceLT, Nat.reduceLeDiff, Nat.reducePow, Nat.reduceEqDiff, ↓reduceIte, reduceCtorEq, Int.reduceToNat, Try.ntmps42, e7, e8, e9, row_4]
      first | exact end_row2 rfl rfl rfl (by simp only [bytesOf_length, List.length_cons]; omega) (allScalar_bytesOf _) rfl rfl | done

set_option maxHeartbeats 8000000 in
theorem refPktPut_all (p : Pkt) (m : Bool) : ∃ z, (z = 1 ∨ putP p = []) ∧ Runs Try.prog env 43 [.pure m (pktV p)] [] (.tuple [.row 0 (putP p).length, .pure true (.int .i64 (badP p : Nat))]) [(0, .row true z 0 (bytesOf (putP p)))] := by
  refine ⟨if badP p = 0 then 1 else 0, ?_, ?_⟩
  · unfold putP
    by_cases h : badP p = 0
    · rw [if_pos h]; exact .inl rfl
    · rw [if_neg h, if_neg h]; exact .inr rfl
  refine Runs.of Try.func43 rfl (by simp [Try.ntmps43]) ?_
  have hb : badP p = if p.1 < 0 ∨ 255 < p.1 ∨ p.2.1 < 0 ∨ 255 < p.2.1 then 1 else if 65531 < p.2.2.length then 4 else 0 := rfl
  unfold pktV
  by_cases h1 : p.1 < 0 ∨ 255 < p.1 ∨ p.2.1 < 0 ∨ 255 < p.2.1
  · rw [if_pos h1] at hb
    have e : putP p = [] := by unfold putP; rw [if_neg (by omega)]
    rw [e, hb]
    rcases Classical.em (p.1 < 0) with q1 | q1
    · simp (maxSteps := 400000) -dsimp -implicitDefEqProofs (disch := first | exact TrueB.mk rfl | omega) only [go_sem, Nat.reduceMul, Nat.reduceAdd, Nat.reduceLT, Nat.reduceLeDiff, Nat.reducePow, Nat.reduceEqDiff, ↓reduceIte, reduceCtorEq, Int.reduceToNat, Try.ntmps43]
      first | exact end_row2 rfl rfl rfl rfl rfl rfl rfl | done
    · rcases Classical.em (255 < p.1) with q2 | q2
      · simp (maxSteps := 400000) -dsimp -implicitDefEqProofs (disch := first | exact TrueB.mk rfl | omega) only [go_sem, Nat.reduceMul, Nat.reduceAdd, Nat.reduceLT, Nat.reduceLeDiff, Nat.reducePow, Nat.reduceEqDiff, ↓reduceIte, reduceCtorEq, Int.reduceToNat, Try.ntmps43]
        first | exact end_row2 rfl rfl rfl rfl rfl rfl rfl | done
      · rcases Classical.em (p.2.1 < 0) with q3 | q3
        · simp (maxSteps := 400000) -dsimp -implicitDefEqProofs (disch := first | exact TrueB.mk rfl | omega) only [go_sem, Nat.reduceMul, Nat.reduceAdd, Nat.reduceLT, Nat.reduceLeDiff, Nat.reducePow, Nat.reduceEqDiff, ↓reduceIte, reduceCtorEq, Int.reduceToNat, Try.ntmps43]
          first | exact end_row2 rfl rfl rfl rfl rfl rfl rfl | done
        · simp (maxSteps := 400000) -dsimp -implicitDefEqProofs (disch := first | exact TrueB.mk rfl | omega) only [go_sem, Nat.reduceMul, Nat.reduceAdd, Nat.reduceLT, Nat.reduceLeDiff, Nat.reducePow, Nat.reduceEqDiff, ↓reduceIte, reduceCtorEq, Int.reduceToNat, Try.ntmps43]
          first | exact end_row2 rfl rfl rfl rfl rfl rfl rfl | done
  · rw [if_neg h1] at hb
    by_cases h2 : 65531 < p.2.2.length
    · rw [if_pos h2] at hb
      have e : putP p = [] := by unfold putP; rw [if_neg (by omega)]
      rw [e, hb]
      simp (maxSteps := 400000) -dsimp -implicitDefEqProofs (disch := first | exact TrueB.mk rfl | omega) only [go_sem, Nat.reduceMul, Nat.reduceAdd, Nat.reduceLT, Nat.reduceLeDiff, Nat.reducePow, Nat.reduceEqDiff, ↓reduceIte, reduceCtorEq, Int.reduceToNat, Try.ntmps43]
      first | exact end_row2 rfl rfl rfl rfl rfl rfl rfl | done
    · rw [if_neg h2] at hb
      obtain ⟨c, i, u, l, e1, e2, e3, e4, e5, e6⟩ := good_pkt hb
      rw [e5, hb]
      have hc := c.toNat_lt
      have hi := i.toNat_lt
      have hu := u.toNat_lt
      have hl := l.toNat_lt
      rw [e1, e2] at h1 ⊢
      have e7 : (4 : Int) + (p.2.2.length : Int) = ((4 + p.2.2.length : Nat) : Int) := by omega
      have e8 : ((4 + p.2.2.length : Nat) : Int).tdiv 256 = (u.toNat : Int) := by rw [← e3]; exact tdiv_l _ _
      have e9 : ((4 + p.2.2.length : Nat) : Int).tmod 256 = (l.toNat : Int) := by rw [← e4]; exact tmod_l _ _
      have e10 : ([c, i, u, l] ++ p.2.2).length = 4 + p.2.2.length := by rw [List.length_append]; rfl
      rw [e10]
      simp (maxSteps := 400000) -dsimp -implicitDefEqProofs (disch := first | exact TrueB.mk rfl | omega) only [go_sem, Nat.reduceMul, Nat.reduceAdd, Nat.reduceLT, Nat.reduceLeDiff, Nat.reducePow, Nat.reduceEqDiff, ↓reduceIte, reduceCtorEq, Int.reduceToNat, Try.ntmps43, e7, e3, e4, row_4]
      first | exact end_row2 rfl rfl rfl (by simp only [bytesOf_length, List.length_cons]; omega) (allScalar_bytesOf _) rfl rfl | done
theorem refPktPut_any (p : Pkt) (hp : p.2.2.length ≤ 100000000) (m : Bool) : ∃ z, (z = 1 ∨ putP p = []) ∧ Runs Try.prog env 43 [.pure m (pktV p)] [] (.tuple [.row 0 (putP p).length, .pure true (.int .i64 (badP p : Nat))]) [(0, .row true z 0 (bytesOf (putP p)))] := refPktPut_all p m

theorem end_cv {P : Program} {sl : Slots} {S : Store} {m m' : Bool} {t a ty kb off : Nat} {x y x' y' : PV} {e : Eff} (hg : get sl a = some (.ptr kb off)) (hl : loadV P 0 (get S) ty (.ptr kb off) = some e) (he : e.res = .pure m x) (hg' : get sl t = some (.pure m' y)) (hx : norm x = x') (hy : norm y = y') :
    outV P 0 [.cell a ty, .tmp t] sl S = some (.tuple [.pure m x', .pure m' y'], []) := by
  subst hx hy
  simp only [outV, resAll, resOne, hg, hg', hl, he, back, single, leave, List.range_zero, refs, refsL, List.nil_append, List.append_nil]
  simp [reach, takeAll, ren, renL, reset]

def getP (b : List UInt8) : Pkt × Nat :=
  match b with
  | c :: i :: u :: l :: r =>
    if u.toNat * 256 + l.toNat < 4 then ((0, 0, []), 3)
    else if r.length + 4 < u.toNat * 256 + l.toNat then ((0, 0, []), 2)
    else (((c.toNat : Int), (i.toNat : Int), r.take (u.toNat * 256 + l.toNat - 4)), 0)
  | _ => ((0, 0, []), 2)
theorem getP_short {b : List UInt8} (h : b.length < 4) : getP b = ((0, 0, []), 2) := by
  match b, h with
  | [], _ => rfl
  | [_], _ => rfl
  | [_, _], _ => rfl
  | [_, _, _], _ => rfl

set_option maxHeartbeats 8000000 in
theorem pktGet_any (b : List UInt8) (hb : b.length ≤ 1000000) (m : Bool) : Runs Try.prog env 44 [.pure m (.sl (bytesOf b))] [] (.tuple [.pure true (pktV (getP b).1), .pure true (.int .i64 ((getP b).2 : Nat))]) [] := by
  refine Runs.of Try.func44 rfl (by simp [Try.ntmps44]) ?_
  by_cases h4 : b.length < 4
  · rw [getP_short h4]
    simp (maxSteps := 400000) -dsimp -implicitDefEqProofs (disch := first | exact TrueB.mk rfl | omega) only [go_sem, Nat.reduceMul, Nat.reduceAdd, Nat.reduceLT, Nat.reduceLeDiff, Nat.reducePow, Nat.reduceEqDiff, ↓reduceIte, reduceCtorEq, Int.reduceToNat, Try.ntmps44]
    first | (refine Eq.trans (end_cv rfl rfl rfl rfl rfl rfl) ?_; rfl) | done
  · obtain ⟨c, i, u, l, r, rfl⟩ : ∃ c i u l r, b = c :: i :: u :: l :: r := by
      match b, h4 with
      | [], h => simp at h
      | [_], h => simp at h
      | [_, _], h => simp at h
      | [_, _, _], h => simp at h
      | c :: i :: u :: l :: r, _ => exact ⟨c, i, u, l, r, rfl⟩
    have hget : getP (c :: i :: u :: l :: r) = if u.toNat * 256 + l.toNat < 4 then ((0, 0, []), 3)
      else if r.length + 4 < u.toNat * 256 + l.toNat then ((0, 0, []), 2)
      else (((c.toNat : Int), (i.toNat : Int), r.take (u.toNat * 256 + l.toNat - 4)), 0) := rfl
    have g0 : (bytesOf (c :: i :: u :: l :: r))[0]? = some (.int .u8 c.toNat) := rfl
    have g1 : (bytesOf (c :: i :: u :: l :: r))[1]? = some (.int .u8 i.toNat) := rfl
    have g2 : (bytesOf (c :: i :: u :: l :: r))[2]? = some (.int .u8 u.toNat) := rfl
    have g3 : (bytesOf (c :: i :: u :: l :: r))[3]? = some (.int .u8 l.toNat) := rfl
    have gd : (c :: i :: u :: l :: r).drop 4 = r := rfl
    have gl : (c :: i :: u :: l :: r).length = r.length + 4 := rfl
    rw [gl] at hb h4
    have hc := c.toNat_lt
    have hi := i.toNat_lt
    have hu := u.toNat_lt
    have hl := l.toNat_lt
    have ho := or_i64 u.toNat l.toNat hl (by omega)
    generalize hn : u.toNat * 256 + l.toNat = n at *
    have c1 := cut_ok (c :: i :: u :: l :: r) (by rw [gl]; omega) 4 (n - 4)
    have c2 := cut_no (c :: i :: u :: l :: r) (by rw [gl]; omega) 4 (n - 4)
    rw [gd, gl] at c1
    rw [gl] at c2
    generalize c :: i :: u :: l :: r = B at *
    rw [hget]
    by_cases h1 : n < 4
    · rw [if_pos h1]
      simp (maxSteps := 400000) -dsimp -implicitDefEqProofs (disch := first | exact TrueB.mk rfl | omega) only [go_sem, Nat.reduceMul, Nat.reduceAdd, Nat.reduceLT, Nat.reduceLeDiff, Nat.reducePow, Nat.reduceEqDiff, ↓reduceIte, reduceCtorEq, Int.reduceToNat, Try.ntmps44, gl, g2, g3, ho]
      first | (refine Eq.trans (end_cv rfl rfl rfl rfl rfl rfl) ?_; rfl) | done
    · rw [if_neg h1]
      have e1 : (n : Int) - 4 = ((n - 4 : Nat) : Int) := by omega
      by_cases h2 : r.length + 4 < n
      · rw [if_pos h2]
        simp (maxSteps := 400000) -dsimp -implicitDefEqProofs (disch := first | exact TrueB.mk rfl | omega) only [go_sem, Nat.reduceMul, Nat.reduceAdd, Nat.reduceLT, Nat.reduceLeDiff, Nat.reducePow, Nat.reduceEqDiff, ↓reduceIte, reduceCtorEq, Int.reduceToNat, Try.ntmps44, gl, g2, g3, ho, e1]
        first | refine wpAct_callG (c2 (by omega) (by omega) (by omega) _ _ _) rfl rfl rfl rfl rfl rfl rfl rfl rfl ?_ | done
        simp (maxSteps := 400000) -dsimp -implicitDefEqProofs (disch := first | exact TrueB.mk rfl | omega) only [go_sem, Nat.reduceMul, Nat.reduceAdd, Nat.reduceLT, Nat.reduceLeDiff, Nat.reducePow, Nat.reduceEqDiff, ↓reduceIte, reduceCtorEq, Int.reduceToNat]
        first | (refine Eq.trans (end_cv rfl rfl rfl rfl rfl rfl) ?_; rfl) | done
      · rw [if_neg h2]
        simp (maxSteps := 400000) -dsimp -implicitDefEqProofs (disch := first | exact TrueB.mk rfl | omega) only [go_sem, Nat.reduceMul, Nat.reduceAdd, Nat.reduceLT, Nat.reduceLeDiff, Nat.reducePow, Nat.reduceEqDiff, ↓reduceIte, reduceCtorEq, Int.reduceToNat, Try.ntmps44, gl, g2, g3, ho, e1]
        first | refine wpAct_callG (c1 (by omega) _ _ _) rfl rfl rfl rfl rfl rfl rfl rfl rfl ?_ | done
        simp (maxSteps := 400000) -dsimp -implicitDefEqProofs (disch := first | exact TrueB.mk rfl | omega) only [go_sem, Nat.reduceMul, Nat.reduceAdd, Nat.reduceLT, Nat.reduceLeDiff, Nat.reducePow, Nat.reduceEqDiff, ↓reduceIte, reduceCtorEq, Int.reduceToNat, g0, g1]
        first | (refine Eq.trans (end_cv rfl rfl rfl rfl rfl rfl) ?_; rfl) | done
end Go.Proofs.Ytpgklagjjimbhaa
