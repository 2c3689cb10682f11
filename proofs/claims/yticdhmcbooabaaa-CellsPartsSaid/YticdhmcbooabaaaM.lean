/- YticdhmcbooabaaaM: a config's counts; whether a cell is among some. No claim. -/
import Derived.Test.YticdhmcbooabaaaH
set_option linter.unusedVariables false
set_option linter.unusedSimpArgs false
set_option maxRecDepth 100000
namespace Go.Proofs.Yticdhmcbooabaaa
open Go Go.Proofs.Yticdhmcbooabaaa.V

theorem beq_same {α : Type} [BEq α] [LawfulBEq α] (s : α) : (s == s) = true := by simp
def confV (a b c : Int) : PV := .agg [.int .i64 a, .int .i64 b, .int .i64 c, .int .i64 0, .str [], .str [], .int .i64 0, .int .u32 0, .bool false]

set_option maxHeartbeats 4000000 in
theorem conf_any (x y : UInt8) (m m' : Bool) : Runs Try.prog env 7 [.pure m (.int .u8 x.toNat), .pure m' (.int .u8 y.toNat)] [] (.pure true (confV (1 + (x.toNat % 4 : Nat)) (1 + (y.toNat % 4 : Nat)) 1)) [] := by
  have hx := x.toNat_lt
  have hy := y.toNat_lt
  have w1 : IntKind.i64.wrap (x.toNat : Int) = (x.toNat : Int) := by rw [wrap_i64 (by omega) (by omega)]
  have w2 : IntKind.i64.wrap (y.toNat : Int) = (y.toNat : Int) := by rw [wrap_i64 (by omega) (by omega)]
  have w3 : IntKind.i64.wrap (1 + ((x.toNat % 4 : Nat) : Int)) = 1 + ((x.toNat % 4 : Nat) : Int) := by rw [wrap_i64 (by omega) (by omega)]
  have w4 : IntKind.i64.wrap (1 + ((y.toNat % 4 : Nat) : Int)) = 1 + ((y.toNat % 4 : Nat) : Int) := by rw [wrap_i64 (by omega) (by omega)]
  unfold confV
  refine Runs.of Try.func7 rfl (by simp [Try.ntmps7]) ?_
  simp (maxSteps := 400000) -dsimp -implicitDefEqProofs (disch := first | exact TrueB.mk rfl | omega) only [go_sem, Nat.reduceMul, Nat.reduceAdd, Nat.reduceLT, Nat.reduceLeDiff, Nat.reducePow, Nat.reduceEqDiff, ↓reduceIte, reduceCtorEq, Int.reduceToNat, Try.ntmps7, w1, w2, w3, w4, tmod_nat]
  first | exact rfl | done

abbrev C3 := Int × Int × Int
def cV (c : C3) : PV := .agg [.int .i64 c.1, .int .i64 c.2.1, .int .i64 c.2.2]
def cellsV (l : List C3) : List PV := l.map cV
theorem cells_at {l : List C3} {i : Nat} (h : i < l.length) : (cellsV l)[i]? = some (.agg [.int .i64 l[i].1, .int .i64 l[i].2.1, .int .i64 l[i].2.2]) := by simp [cellsV, h, cV]
theorem cellsV_length (l : List C3) : (cellsV l).length = l.length := by simp [cellsV]

set_option maxHeartbeats 8000000 in
theorem has_any (l : List C3) (x : C3) (hl : l.length ≤ 100000) (m m' : Bool) : Runs Try.prog env 11 [.pure m (.sl (cellsV l)), .pure m' (.agg [.int .i64 x.1, .int .i64 x.2.1, .int .i64 x.2.2])] [] (.pure true (.bool (decide (x ∈ l)))) [] := by
  have hil := cellsV_length l
  refine Runs.of Try.func11 rfl (by simp [Try.ntmps11]) ?_
  simp (maxSteps := 400000) -dsimp -implicitDefEqProofs (disch := first | exact TrueB.mk rfl | omega) only [go_sem, Nat.reduceMul, Nat.reduceAdd, Nat.reduceLT, Nat.reduceLeDiff, Nat.reducePow, Nat.reduceEqDiff, ↓reduceIte, reduceCtorEq, Int.reduceToNat, Try.ntmps11]
  refine wpLoop_ind (α := Nat)
    (fun i => ⟨[(0, .pure m (.sl (cellsV l))), (3, .ptr 288 0), (5, .pure true (.int .i64 i))], [(288, .box [.pure m' (.int .i64 x.1), .pure m' (.int .i64 x.2.1), .pure m' (.int .i64 x.2.2)])]⟩)
    (fun i => i ≤ l.length ∧ ∀ j (hj : j < l.length), j < i → l[j] ≠ x) (fun i => l.length - i) ?_ 0 ⟨by omega, fun j hj h => by omega⟩ rfl
  rintro i ⟨hi, hn⟩
  rcases Classical.em (i < l.length) with h1 | h1
  · have g1 := cells_at h1
    rcases Classical.em (l[i] = x) with h2 | h2
    · have hmem : x ∈ l := h2 ▸ List.getElem_mem h1
      rw [h2] at g1
      simp (maxSteps := 400000) -dsimp -implicitDefEqProofs (disch := first | exact TrueB.mk rfl | omega) only [go_sem, Nat.reduceMul, Nat.reduceAdd, Nat.reduceLT, Nat.reduceLeDiff, Nat.reducePow, Nat.reduceEqDiff, ↓reduceIte, reduceCtorEq, Int.reduceToNat, g1, hil, beq_same]
      first | exact end_bool rfl (decide_eq_true hmem).symm | done
    · have h3 : ∀ j (hj : j < l.length), j < i + 1 → l[j] ≠ x := fun j hj hji => by
        rcases Nat.lt_or_ge j i with h | h
        · exact hn j hj h
        · obtain rfl : j = i := by omega
          exact h2
      generalize l[i] = y at *
      obtain ⟨a, b, c⟩ := y
      obtain ⟨p, s, e⟩ := x
      simp only at *
      rcases Classical.em (a = p) with h4 | h4
      · rcases Classical.em (b = s) with h5 | h5
        · have h6 : ¬ c = e := fun h6 => h2 (by rw [h4, h5, h6])
          subst h4 h5
          have h7 : (c == e) = false := by simpa using h6
          simp (maxSteps := 400000) -dsimp -implicitDefEqProofs (disch := first | exact TrueB.mk rfl | omega) only [go_sem, Nat.reduceMul, Nat.reduceAdd, Nat.reduceLT, Nat.reduceLeDiff, Nat.reducePow, Nat.reduceEqDiff, ↓reduceIte, reduceCtorEq, Int.reduceToNat, g1, hil, beq_same, h7]
          exact again_mk ⟨i + 1, ⟨by omega, h3⟩, by omega, rfl⟩
        · subst h4
          have h7 : (b == s) = false := by simpa using h5
          simp (maxSteps := 400000) -dsimp -implicitDefEqProofs (disch := first | exact TrueB.mk rfl | omega) only [go_sem, Nat.reduceMul, Nat.reduceAdd, Nat.reduceLT, Nat.reduceLeDiff, Nat.reducePow, Nat.reduceEqDiff, ↓reduceIte, reduceCtorEq, Int.reduceToNat, g1, hil, beq_same, h7]
          exact again_mk ⟨i + 1, ⟨by omega, h3⟩, by omega, rfl⟩
      · have h7 : (a == p) = false := by simpa using h4
        simp (maxSteps := 400000) -dsimp -implicitDefEqProofs (disch := first | exact TrueB.mk rfl | omega) only [go_sem, Nat.reduceMul, Nat.reduceAdd, Nat.reduceLT, Nat.reduceLeDiff, Nat.reducePow, Nat.reduceEqDiff, ↓reduceIte, reduceCtorEq, Int.reduceToNat, g1, hil, beq_same, h7]
        exact again_mk ⟨i + 1, ⟨by omega, h3⟩, by omega, rfl⟩
  · have hmem : ¬ x ∈ l := fun h => by
      obtain ⟨j, hj, e⟩ := List.mem_iff_getElem.1 h
      exact hn j hj (by omega) e
    simp (maxSteps := 400000) -dsimp -implicitDefEqProofs (disch := first | exact TrueB.mk rfl | omega) only [go_sem, Nat.reduceMul, Nat.reduceAdd, Nat.reduceLT, Nat.reduceLeDiff, Nat.reducePow, Nat.reduceEqDiff, ↓reduceIte, reduceCtorEq, Int.reduceToNat, hil]
    first | exact end_bool rfl (decide_eq_false hmem).symm | done
end Go.Proofs.Yticdhmcbooabaaa
