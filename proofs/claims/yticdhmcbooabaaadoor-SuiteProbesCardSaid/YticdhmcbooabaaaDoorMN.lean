/- YticdhmcbooabaaaDoorMN: parts of the proof of CellsKeeps. No claim. -/
import Derived.Test.YticdhmcbooabaaaDoorI
set_option linter.unusedVariables false
set_option linter.unusedSimpArgs false
set_option maxRecDepth 1000000
namespace Go.Proofs.YticdhmcbooabaaaDoor
open Go Go.Proofs.YticdhmcbooabaaaDoor.V

set_option maxHeartbeats 4000000 in
theorem conf_any (x y : UInt8) (m m' : Bool) : Runs Tryd.prog env 12 [.pure m (.int .u8 x.toNat), .pure m' (.int .u8 y.toNat)] [] (.pure true (confV (1 + (x.toNat % 4 : Nat)) (1 + (y.toNat % 4 : Nat)) 1)) [] := by
  have hx := x.toNat_lt
  have hy := y.toNat_lt
  have w1 : IntKind.i64.wrap (x.toNat : Int) = (x.toNat : Int) := by rw [wrap_i64 (by omega) (by omega)]
  have w2 : IntKind.i64.wrap (y.toNat : Int) = (y.toNat : Int) := by rw [wrap_i64 (by omega) (by omega)]
  have w3 : IntKind.i64.wrap (1 + ((x.toNat % 4 : Nat) : Int)) = 1 + ((x.toNat % 4 : Nat) : Int) := by rw [wrap_i64 (by omega) (by omega)]
  have w4 : IntKind.i64.wrap (1 + ((y.toNat % 4 : Nat) : Int)) = 1 + ((y.toNat % 4 : Nat) : Int) := by rw [wrap_i64 (by omega) (by omega)]
  unfold confV
  refine Runs.of Tryd.func12 rfl (by simp [Tryd.ntmps12]) ?_
  simp (maxSteps := 400000) -dsimp -implicitDefEqProofs (disch := first | exact TrueB.mk rfl | omega) only [go_sem, Tryd.ntmps12, w1, w2, w3, w4, tmod_nat]
  first | exact rfl | done

abbrev C3 := Int × Int × Int
def cV (c : C3) : PV := .agg [.int .i64 c.1, .int .i64 c.2.1, .int .i64 c.2.2]
def cellsV (l : List C3) : List PV := l.map cV
theorem cells_at {l : List C3} {i : Nat} (h : i < l.length) : (cellsV l)[i]? = some (.agg [.int .i64 l[i].1, .int .i64 l[i].2.1, .int .i64 l[i].2.2]) := by simp [cellsV, h, cV]
theorem cellsV_length (l : List C3) : (cellsV l).length = l.length := by simp [cellsV]

set_option maxHeartbeats 8000000 in
theorem has_any (l : List C3) (x : C3) (hl : l.length ≤ 100000) (m m' : Bool) : Runs Tryd.prog env 24 [.pure m (.sl (cellsV l)), .pure m' (.agg [.int .i64 x.1, .int .i64 x.2.1, .int .i64 x.2.2])] [] (.pure true (.bool (decide (x ∈ l)))) [] := by
  have hil := cellsV_length l
  refine Runs.of Tryd.func24 rfl (by simp [Tryd.ntmps24]) ?_
  simp (maxSteps := 400000) -dsimp -implicitDefEqProofs (disch := first | exact TrueB.mk rfl | omega) only [go_sem, Tryd.ntmps24]
  refine wpLoop_ind (α := Nat)
    (fun i => ⟨[(0, .pure m (.sl (cellsV l))), (3, .ptr 288 0), (5, .pure true (.int .i64 i))], [(288, .box [.pure m' (.int .i64 x.1), .pure m' (.int .i64 x.2.1), .pure m' (.int .i64 x.2.2)])]⟩)
    (fun i => i ≤ l.length ∧ ∀ j (hj : j < l.length), j < i → l[j] ≠ x) (fun i => l.length - i) ?_ 0 ⟨by omega, fun j hj h => by omega⟩ rfl
  rintro i ⟨hi, hn⟩
  rcases Classical.em (i < l.length) with h1 | h1
  · have g1 := cells_at h1
    rcases Classical.em (l[i] = x) with h2 | h2
    · have hmem : x ∈ l := h2 ▸ List.getElem_mem h1
      rw [h2] at g1
      simp (maxSteps := 400000) -dsimp -implicitDefEqProofs (disch := first | exact TrueB.mk rfl | omega) only [go_sem, g1, hil, beq_same]
      first | exact end_bool rfl (decide_eq_true hmem).symm | done
    · have h3 : ∀ j (hj : j < l.length), j < i + 1 → l[j] ≠ x := fun j hj hji => by
        rcases Nat.lt_or_ge j i with h | h
        · exact hn j hj h
        · obtain rfl : j = i := by omega
          exact h2
      generalize l[i] = y at *
      obtain ⟨a, b, c⟩ := y
      obtain ⟨p, s, e⟩ := x
      simp only at *
      rcases Classical.em (a = p) with h4 | h4
      · rcases Classical.em (b = s) with h5 | h5
        · have h6 : ¬ c = e := fun h6 => h2 (by rw [h4, h5, h6])
          subst h4 h5
          have h7 : (c == e) = false := by simpa using h6
          simp (maxSteps := 400000) -dsimp -implicitDefEqProofs (disch := first | exact TrueB.mk rfl | omega) only [go_sem, g1, hil, beq_same, h7]
          exact again_mk ⟨i + 1, ⟨by omega, h3⟩, by omega, rfl⟩
        · subst h4
          have h7 : (b == s) = false := by simpa using h5
          simp (maxSteps := 400000) -dsimp -implicitDefEqProofs (disch := first | exact TrueB.mk rfl | omega) only [go_sem, g1, hil, beq_same, h7]
          exact again_mk ⟨i + 1, ⟨by omega, h3⟩, by omega, rfl⟩
      · have h7 : (a == p) = false := by simpa using h4
        simp (maxSteps := 400000) -dsimp -implicitDefEqProofs (disch := first | exact TrueB.mk rfl | omega) only [go_sem, g1, hil, beq_same, h7]
        exact again_mk ⟨i + 1, ⟨by omega, h3⟩, by omega, rfl⟩
  · have hmem : ¬ x ∈ l := fun h => by
      obtain ⟨j, hj, e⟩ := List.mem_iff_getElem.1 h
      exact hn j hj (by omega) e
    simp (maxSteps := 400000) -dsimp -implicitDefEqProofs (disch := first | exact TrueB.mk rfl | omega) only [go_sem, hil]
    first | exact end_bool rfl (decide_eq_false hmem).symm | done

theorem protos_any : Runs Tryd.prog env 35 [] [] (.pure true (.agg [.int .i64 49185, .int .i64 32801, .int .i64 32855])) [] := ⟨60, by kernel_rfl⟩

set_option maxHeartbeats 8000000 in
theorem happen_no_0 (a0 r0 a1 r1 a2 r2 e cf tm : Int) (s0 s1 s2 : Bool) (h0 : 0 ≤ r0) (h : stepOut a0 e r0 = none) (f0 f1 f2 f3 f4 f5 g0 g1 g2 mc mi me : Bool) :
    Runs Tryd.prog env 47 [.ptr 0 0, .pure mc (confV cf tm 1), .pure mi (.int .i64 0), .pure me (.int .i64 e)] [(0, .box [.pure f0 (.int .i64 a0), .pure f1 (.int .i64 r0), .pure f2 (.int .i64 a1), .pure f3 (.int .i64 r1), .pure f4 (.int .i64 a2), .pure f5 (.int .i64 r2), .pure g0 (.bool s0), .pure g1 (.bool s1), .pure g2 (.bool s2)])]
      (.tuple [.pure true (.agg [.int .i64 0, .int .i64 0, .int .i64 0]), .pure true (.bool false)]) [(0, .box [.pure f0 (.int .i64 a0), .pure f1 (.int .i64 r0), .pure f2 (.int .i64 a1), .pure f3 (.int .i64 r1), .pure f4 (.int .i64 a2), .pure f5 (.int .i64 r2), .pure g0 (.bool s0), .pure g1 (.bool s1), .pure g2 (.bool s2)])] := by
  have d1 := fun m m' m'' => stepA_no a0 e r0 cf tm h0 h m m' m''
  unfold confV autV at *
  refine Runs.of Tryd.func47 rfl (by simp [Tryd.ntmps47]) ?_
  simp (maxSteps := 400000) -dsimp -implicitDefEqProofs (disch := first | exact TrueB.mk rfl | omega) only [go_sem, Tryd.ntmps47]
  first | refine wpAct_call0 (protos_any) rfl rfl rfl rfl rfl rfl rfl rfl ?_ | done
  simp (maxSteps := 400000) -dsimp -implicitDefEqProofs (disch := first | exact TrueB.mk rfl | omega) only [go_sem]
  first | refine wpAct_callG (d1 _ _ _) rfl rfl rfl rfl rfl rfl rfl rfl rfl ?_ | done
  simp (maxSteps := 400000) -dsimp -implicitDefEqProofs (disch := first | exact TrueB.mk rfl | omega) only [go_sem]
  first | exact rfl | done

set_option maxHeartbeats 16000000 in
theorem happen_yes_0 (a0 r0 a1 r1 a2 r2 e cf tm : Int) (s0 s1 s2 : Bool) (h1 : 1 ≤ cf ∧ cf ≤ 255) (h2 : 1 ≤ tm ∧ tm ≤ 255) (h3 : 0 ≤ r0 ∧ r0 ≤ 255) {n : Nat} {l : List Nat} (h : stepOut a0 e r0 = some (n, l)) (hl : l.length ≤ 100) (f0 f1 f2 f3 f4 f5 g0 g1 g2 mc mi me : Bool) :
    Runs Tryd.prog env 47 [.ptr 0 0, .pure mc (confV cf tm 1), .pure mi (.int .i64 0), .pure me (.int .i64 e)] [(0, .box [.pure f0 (.int .i64 a0), .pure f1 (.int .i64 r0), .pure f2 (.int .i64 a1), .pure f3 (.int .i64 r1), .pure f4 (.int .i64 a2), .pure f5 (.int .i64 r2), .pure g0 (.bool s0), .pure g1 (.bool s1), .pure g2 (.bool s2)])]
      (.tuple [.pure (f0 && me) (.agg [.int .i64 49185, .int .i64 a0, .int .i64 e]), .pure true (.bool true)]) [(0, .box [.pure false (.int .i64 n), .pure false (.int .i64 (restA cf tm l r0)), .pure f2 (.int .i64 a1), .pure f3 (.int .i64 r1), .pure f4 (.int .i64 a2), .pure f5 (.int .i64 r2), .pure true (.bool (s0 || hasN l 7)), .pure g1 (.bool s1), .pure g2 (.bool s2)])] := by
  have d1 := fun m m' m'' => stepA_yes a0 e r0 cf tm h1 h2 h3 h hl m m' m''
  have cc := fun m m' => contains_any l 7 (by omega) m m'
  generalize restA cf tm l r0 = x at *
  generalize hasN l 7 = y at *
  unfold confV autV at *
  refine Runs.of Tryd.func47 rfl (by simp [Tryd.ntmps47]) ?_
  simp (maxSteps := 400000) -dsimp -implicitDefEqProofs (disch := first | exact TrueB.mk rfl | omega) only [go_sem, Tryd.ntmps47]
  first | refine wpAct_call0 (protos_any) rfl rfl rfl rfl rfl rfl rfl rfl ?_ | done
  simp (maxSteps := 400000) -dsimp -implicitDefEqProofs (disch := first | exact TrueB.mk rfl | omega) only [go_sem]
  first | refine wpAct_call0 (d1 _ _ _) rfl rfl rfl rfl rfl rfl rfl rfl ?_ | done
  simp (maxSteps := 400000) -dsimp -implicitDefEqProofs (disch := first | exact TrueB.mk rfl | omega) only [go_sem]
  cases s0 with
  | true =>
    simp (maxSteps := 400000) -dsimp -implicitDefEqProofs (disch := first | exact TrueB.mk rfl | omega) only [go_sem]
    cases f0 <;> cases me <;> rfl
  | false =>
    simp (maxSteps := 400000) -dsimp -implicitDefEqProofs (disch := first | exact TrueB.mk rfl | omega) only [go_sem]
    first | refine wpAct_call0 (cc _ _) rfl rfl rfl rfl rfl rfl rfl rfl ?_ | done
    simp (maxSteps := 400000) -dsimp -implicitDefEqProofs (disch := first | exact TrueB.mk rfl | omega) only [go_sem]
    cases f0 <;> cases me <;> cases y <;> rfl

set_option maxHeartbeats 8000000 in
theorem happen_no_1 (a0 r0 a1 r1 a2 r2 e cf tm : Int) (s0 s1 s2 : Bool) (h0 : 0 ≤ r1) (h : stepOut a1 e r1 = none) (f0 f1 f2 f3 f4 f5 g0 g1 g2 mc mi me : Bool) :
    Runs Tryd.prog env 47 [.ptr 0 0, .pure mc (confV cf tm 1), .pure mi (.int .i64 1), .pure me (.int .i64 e)] [(0, .box [.pure f0 (.int .i64 a0), .pure f1 (.int .i64 r0), .pure f2 (.int .i64 a1), .pure f3 (.int .i64 r1), .pure f4 (.int .i64 a2), .pure f5 (.int .i64 r2), .pure g0 (.bool s0), .pure g1 (.bool s1), .pure g2 (.bool s2)])]
      (.tuple [.pure true (.agg [.int .i64 0, .int .i64 0, .int .i64 0]), .pure true (.bool false)]) [(0, .box [.pure f0 (.int .i64 a0), .pure f1 (.int .i64 r0), .pure f2 (.int .i64 a1), .pure f3 (.int .i64 r1), .pure f4 (.int .i64 a2), .pure f5 (.int .i64 r2), .pure g0 (.bool s0), .pure g1 (.bool s1), .pure g2 (.bool s2)])] := by
  have d1 := fun m m' m'' => stepA_no a1 e r1 cf tm h0 h m m' m''
  unfold confV autV at *
  refine Runs.of Tryd.func47 rfl (by simp [Tryd.ntmps47]) ?_
  simp (maxSteps := 400000) -dsimp -implicitDefEqProofs (disch := first | exact TrueB.mk rfl | omega) only [go_sem, Tryd.ntmps47]
  first | refine wpAct_call0 (protos_any) rfl rfl rfl rfl rfl rfl rfl rfl ?_ | done
  simp (maxSteps := 400000) -dsimp -implicitDefEqProofs (disch := first | exact TrueB.mk rfl | omega) only [go_sem]
  first | refine wpAct_callG (d1 _ _ _) rfl rfl rfl rfl rfl rfl rfl rfl rfl ?_ | done
  simp (maxSteps := 400000) -dsimp -implicitDefEqProofs (disch := first | exact TrueB.mk rfl | omega) only [go_sem]
  first | exact rfl | done

set_option maxHeartbeats 16000000 in
theorem happen_yes_1 (a0 r0 a1 r1 a2 r2 e cf tm : Int) (s0 s1 s2 : Bool) (h1 : 1 ≤ cf ∧ cf ≤ 255) (h2 : 1 ≤ tm ∧ tm ≤ 255) (h3 : 0 ≤ r1 ∧ r1 ≤ 255) {n : Nat} {l : List Nat} (h : stepOut a1 e r1 = some (n, l)) (hl : l.length ≤ 100) (f0 f1 f2 f3 f4 f5 g0 g1 g2 mc mi me : Bool) :
    Runs Tryd.prog env 47 [.ptr 0 0, .pure mc (confV cf tm 1), .pure mi (.int .i64 1), .pure me (.int .i64 e)] [(0, .box [.pure f0 (.int .i64 a0), .pure f1 (.int .i64 r0), .pure f2 (.int .i64 a1), .pure f3 (.int .i64 r1), .pure f4 (.int .i64 a2), .pure f5 (.int .i64 r2), .pure g0 (.bool s0), .pure g1 (.bool s1), .pure g2 (.bool s2)])]
      (.tuple [.pure (f2 && me) (.agg [.int .i64 32801, .int .i64 a1, .int .i64 e]), .pure true (.bool true)]) [(0, .box [.pure f0 (.int .i64 a0), .pure f1 (.int .i64 r0), .pure false (.int .i64 n), .pure false (.int .i64 (restA cf tm l r1)), .pure f4 (.int .i64 a2), .pure f5 (.int .i64 r2), .pure g0 (.bool s0), .pure true (.bool (s1 || hasN l 7)), .pure g2 (.bool s2)])] := by
  have d1 := fun m m' m'' => stepA_yes a1 e r1 cf tm h1 h2 h3 h hl m m' m''
  have cc := fun m m' => contains_any l 7 (by omega) m m'
  generalize restA cf tm l r1 = x at *
  generalize hasN l 7 = y at *
  unfold confV autV at *
  refine Runs.of Tryd.func47 rfl (by simp [Tryd.ntmps47]) ?_
  simp (maxSteps := 400000) -dsimp -implicitDefEqProofs (disch := first | exact TrueB.mk rfl | omega) only [go_sem, Tryd.ntmps47]
  first | refine wpAct_call0 (protos_any) rfl rfl rfl rfl rfl rfl rfl rfl ?_ | done
  simp (maxSteps := 400000) -dsimp -implicitDefEqProofs (disch := first | exact TrueB.mk rfl | omega) only [go_sem]
  first | refine wpAct_call0 (d1 _ _ _) rfl rfl rfl rfl rfl rfl rfl rfl ?_ | done
  simp (maxSteps := 400000) -dsimp -implicitDefEqProofs (disch := first | exact TrueB.mk rfl | omega) only [go_sem]
  cases s1 with
  | true =>
    simp (maxSteps := 400000) -dsimp -implicitDefEqProofs (disch := first | exact TrueB.mk rfl | omega) only [go_sem]
    cases f2 <;> cases me <;> rfl
  | false =>
    simp (maxSteps := 400000) -dsimp -implicitDefEqProofs (disch := first | exact TrueB.mk rfl | omega) only [go_sem]
    first | refine wpAct_call0 (cc _ _) rfl rfl rfl rfl rfl rfl rfl rfl ?_ | done
    simp (maxSteps := 400000) -dsimp -implicitDefEqProofs (disch := first | exact TrueB.mk rfl | omega) only [go_sem]
    cases f2 <;> cases me <;> cases y <;> rfl

set_option maxHeartbeats 8000000 in
theorem happen_no_2 (a0 r0 a1 r1 a2 r2 e cf tm : Int) (s0 s1 s2 : Bool) (h0 : 0 ≤ r2) (h : stepOut a2 e r2 = none) (f0 f1 f2 f3 f4 f5 g0 g1 g2 mc mi me : Bool) :
    Runs Tryd.prog env 47 [.ptr 0 0, .pure mc (confV cf tm 1), .pure mi (.int .i64 2), .pure me (.int .i64 e)] [(0, .box [.pure f0 (.int .i64 a0), .pure f1 (.int .i64 r0), .pure f2 (.int .i64 a1), .pure f3 (.int .i64 r1), .pure f4 (.int .i64 a2), .pure f5 (.int .i64 r2), .pure g0 (.bool s0), .pure g1 (.bool s1), .pure g2 (.bool s2)])]
      (.tuple [.pure true (.agg [.int .i64 0, .int .i64 0, .int .i64 0]), .pure true (.bool false)]) [(0, .box [.pure f0 (.int .i64 a0), .pure f1 (.int .i64 r0), .pure f2 (.int .i64 a1), .pure f3 (.int .i64 r1), .pure f4 (.int .i64 a2), .pure f5 (.int .i64 r2), .pure g0 (.bool s0), .pure g1 (.bool s1), .pure g2 (.bool s2)])] := by
  have d1 := fun m m' m'' => stepA_no a2 e r2 cf tm h0 h m m' m''
  unfold confV autV at *
  refine Runs.of Tryd.func47 rfl (by simp [Tryd.ntmps47]) ?_
  simp (maxSteps := 400000) -dsimp -implicitDefEqProofs (disch := first | exact TrueB.mk rfl | omega) only [go_sem, Tryd.ntmps47]
  first | refine wpAct_call0 (protos_any) rfl rfl rfl rfl rfl rfl rfl rfl ?_ | done
  simp (maxSteps := 400000) -dsimp -implicitDefEqProofs (disch := first | exact TrueB.mk rfl | omega) only [go_sem]
  first | refine wpAct_callG (d1 _ _ _) rfl rfl rfl rfl rfl rfl rfl rfl rfl ?_ | done
  simp (maxSteps := 400000) -dsimp -implicitDefEqProofs (disch := first | exact TrueB.mk rfl | omega) only [go_sem]
  first | exact rfl | done

set_option maxHeartbeats 16000000 in
theorem happen_yes_2 (a0 r0 a1 r1 a2 r2 e cf tm : Int) (s0 s1 s2 : Bool) (h1 : 1 ≤ cf ∧ cf ≤ 255) (h2 : 1 ≤ tm ∧ tm ≤ 255) (h3 : 0 ≤ r2 ∧ r2 ≤ 255) {n : Nat} {l : List Nat} (h : stepOut a2 e r2 = some (n, l)) (hl : l.length ≤ 100) (f0 f1 f2 f3 f4 f5 g0 g1 g2 mc mi me : Bool) :
    Runs Tryd.prog env 47 [.ptr 0 0, .pure mc (confV cf tm 1), .pure mi (.int .i64 2), .pure me (.int .i64 e)] [(0, .box [.pure f0 (.int .i64 a0), .pure f1 (.int .i64 r0), .pure f2 (.int .i64 a1), .pure f3 (.int .i64 r1), .pure f4 (.int .i64 a2), .pure f5 (.int .i64 r2), .pure g0 (.bool s0), .pure g1 (.bool s1), .pure g2 (.bool s2)])]
      (.tuple [.pure (f4 && me) (.agg [.int .i64 32855, .int .i64 a2, .int .i64 e]), .pure true (.bool true)]) [(0, .box [.pure f0 (.int .i64 a0), .pure f1 (.int .i64 r0), .pure f2 (.int .i64 a1), .pure f3 (.int .i64 r1), .pure false (.int .i64 n), .pure false (.int .i64 (restA cf tm l r2)), .pure g0 (.bool s0), .pure g1 (.bool s1), .pure true (.bool (s2 || hasN l 7))])] := by
  have d1 := fun m m' m'' => stepA_yes a2 e r2 cf tm h1 h2 h3 h hl m m' m''
  have cc := fun m m' => contains_any l 7 (by omega) m m'
  generalize restA cf tm l r2 = x at *
  generalize hasN l 7 = y at *
  unfold confV autV at *
  refine Runs.of Tryd.func47 rfl (by simp [Tryd.ntmps47]) ?_
  simp (maxSteps := 400000) -dsimp -implicitDefEqProofs (disch := first | exact TrueB.mk rfl | omega) only [go_sem, Tryd.ntmps47]
  first | refine wpAct_call0 (protos_any) rfl rfl rfl rfl rfl rfl rfl rfl ?_ | done
  simp (maxSteps := 400000) -dsimp -implicitDefEqProofs (disch := first | exact TrueB.mk rfl | omega) only [go_sem]
  first | refine wpAct_call0 (d1 _ _ _) rfl rfl rfl rfl rfl rfl rfl rfl ?_ | done
  simp (maxSteps := 400000) -dsimp -implicitDefEqProofs (disch := first | exact TrueB.mk rfl | omega) only [go_sem]
  cases s2 with
  | true =>
    simp (maxSteps := 400000) -dsimp -implicitDefEqProofs (disch := first | exact TrueB.mk rfl | omega) only [go_sem]
    cases f4 <;> cases me <;> rfl
  | false =>
    simp (maxSteps := 400000) -dsimp -implicitDefEqProofs (disch := first | exact TrueB.mk rfl | omega) only [go_sem]
    first | refine wpAct_call0 (cc _ _) rfl rfl rfl rfl rfl rfl rfl rfl ?_ | done
    simp (maxSteps := 400000) -dsimp -implicitDefEqProofs (disch := first | exact TrueB.mk rfl | omega) only [go_sem]
    cases f4 <;> cases me <;> cases y <;> rfl

end Go.Proofs.YticdhmcbooabaaaDoor
