/- YtkjoolmkgpmlfaaDoorZJ: the program's step. No claim. -/
import Derived.Test.YtkjoolmkgpmlfaaDoorZI
set_option linter.unusedVariables false
set_option linter.unusedSimpArgs false
set_option maxRecDepth 100000
namespace Go.Proofs.YtkjoolmkgpmlfaaDoorZ
open Go Go.Proofs.YtkjoolmkgpmlfaaDoorZ.V

/-- What an action does to the count. -/
def actA (cf tm : Int) (k : Nat) (ten : Bool) (r : Int) : Int := if k = 5 then (if ten then tm else cf) else if k = 6 then 0 else if k = 7 ∨ k = 10 then (if 0 < r then r - 1 else 0) else r
def restA (cf tm : Int) : List Nat → Int → Int
  | [], r => r
  | k :: t, r => restA cf tm t (actA cf tm k (hasN (k :: t) 10) r)
theorem actA_in {cf tm r : Int} {k : Nat} {ten : Bool} (h1 : 1 ≤ cf ∧ cf ≤ 255) (h2 : 1 ≤ tm ∧ tm ≤ 255) (h3 : 0 ≤ r ∧ r ≤ 255) : 0 ≤ actA cf tm k ten r ∧ actA cf tm k ten r ≤ 255 := by
  unfold actA
  split
  · split <;> omega
  · split
    · omega
    · split
      · split <;> omega
      · omega
theorem restA_in {cf tm : Int} {l : List Nat} : ∀ {r : Int}, (1 ≤ cf ∧ cf ≤ 255) → (1 ≤ tm ∧ tm ≤ 255) → (0 ≤ r ∧ r ≤ 255) → 0 ≤ restA cf tm l r ∧ restA cf tm l r ≤ 255 := by
  induction l with
  | nil => exact fun _ _ h => h
  | cons k t ih => exact fun h1 h2 h3 => ih h1 h2 (actA_in h1 h2 h3)
theorem drop_at {l : List Nat} {i : Nat} (h : i < l.length) : l.drop i = l[i] :: l.drop (i + 1) := List.drop_eq_getElem_cons h
theorem ints_drop {l : List Nat} {i : Nat} : (intsOf l).drop i = intsOf (l.drop i) := by simp [intsOf]

theorem allW_ints (l : List Nat) : allW 1 (intsOf l) = true := by
  induction l with
  | nil => rfl
  | cons k t ih => exact ih

def stepOut (s e r : Int) : Option (Nat × List Nat) := match cellI s e with
  | none => none
  | some p => if (e = 5 ∧ r = 0) ∨ (e = 6 ∧ 0 < r) then none else some p

theorem newR (q b : Bool) (a : Int) (n : Nat) : newV (.tuple [.pure q (.int .i64 a), .row 0 n, .pure true (.bool b)]) = true := by cases q <;> rfl
theorem restA_cons {cf tm r : Int} {k : Nat} {t : List Nat} : restA cf tm (k :: t) r = restA cf tm t (actA cf tm k (hasN (k :: t) 10) r) := rfl
/-- Whether the count is new memory's. -/
def flagZ (cf tm : Int) : List Nat → Int → Bool → Bool
  | [], _, q => q
  | k :: t, r, q => flagZ cf tm t (actA cf tm k (hasN (k :: t) 10) r) (if k = 5 then true else if k = 6 ∨ k = 7 ∨ k = 10 then true else q)
theorem flagZ_cons {cf tm r : Int} {q : Bool} {k : Nat} {t : List Nat} : flagZ cf tm (k :: t) r q = flagZ cf tm t (actA cf tm k (hasN (k :: t) 10) r) (if k = 5 then true else if k = 6 ∨ k = 7 ∨ k = 10 then true else q) := rfl
/-- A value out of a cell, a row, a value. -/
theorem end_crv {P : Program} {sl : Slots} {S : Store} {m m' : Bool} {a ty kb off t2 t3 k n z lim : Nat} {xs : List PV} {x y x' y' : PV} {e : Eff} (h1 : get sl a = some (.ptr kb off)) (hl : loadV P 0 (get S) ty (.ptr kb off) = some e) (he : e.res = .pure m x) (hw : e.wr = []) (h2 : get sl t2 = some (.row k n)) (h3 : get sl t3 = some (.pure m' y)) (hk : get S k = some (.row true z lim xs)) (hn : n = xs.length) (hx : norm x = x') (hy : norm y = y') (hxs : x'.scalar = true) (hys : y'.scalar = true) :
    outV P 0 [.cell a ty, .tmp t2, .tmp t3] sl S = some (.tuple [.pure m x', .row 0 n, .pure m' y'], [(0, .row true z (if allScalar xs then 0 else lim) xs)]) := by
  subst hx hy
  simp only [outV, resAll, resOne, h1, hl, he, hw, h2, h3, back, single, leave, List.range_zero, refs, refsL, List.nil_append, List.append_nil, row_back hk]
  cases hs : allScalar xs <;> simp [takeAll, idx, ren, renL, hk, renO, reset, rowOf, hn, hs, hxs, hys, plainV]
theorem ints_scalar (l : List Nat) : allScalar (intsOf l) = true := by
  induction l with
  | nil => rfl
  | cons k t ih => exact ih

set_option maxHeartbeats 8000000 in
theorem stepZ_no (s e r cf tm : Int) (h0 : 0 ≤ r) (h : stepOut s e r = none) : Runs Tryd.prog env 9 [.pure true (confV cf tm 1), .pure false (autV s r), .pure false (.int .i64 e)] [] (.tuple [.pure true (autV 0 0), .row 0 0, .pure true (.bool false)]) [(0, .row true 0 0 [])] := by
  obtain ⟨f, c⟩ := lookz_any s e
  unfold stepOut at h
  unfold confV autV
  generalize cellI s e = C at *
  cases C with
  | none =>
    unfold lookZR lookZS at c
    refine Runs.of Tryd.func9 rfl (by simp [Tryd.ntmps9]) ?_
    simp (maxSteps := 400000) -dsimp -implicitDefEqProofs (disch := first | exact TrueB.mk rfl | omega) only [go_sem, Nat.reduceMul, Nat.reduceAdd, Nat.reduceLT, Nat.reduceLeDiff, Nat.reducePow, Nat.reduceEqDiff, ↓reduceIte, reduceCtorEq, Int.reduceToNat, Tryd.ntmps9]
    first | refine wpAct_call0 (c) rfl rfl rfl rfl rfl rfl rfl rfl ?_ | done
    simp (maxSteps := 400000) -dsimp -implicitDefEqProofs (disch := first | exact TrueB.mk rfl | omega) only [go_sem, Nat.reduceMul, Nat.reduceAdd, Nat.reduceLT, Nat.reduceLeDiff, Nat.reducePow, Nat.reduceEqDiff, ↓reduceIte, reduceCtorEq, Int.reduceToNat]
    first | exact rfl | done
  | some p =>
    obtain ⟨n, l⟩ := p
    simp only at h
    split at h
    · rename_i h1
      cases l with
      | nil =>
        unfold lookZR lookZS at c
        rcases h1 with ⟨h2, h3⟩ | ⟨h2, h3⟩
        · subst h2 h3
          refine Runs.of Tryd.func9 rfl (by simp [Tryd.ntmps9]) ?_
          simp (maxSteps := 400000) -dsimp -implicitDefEqProofs (disch := first | exact TrueB.mk rfl | omega) only [go_sem, Nat.reduceMul, Nat.reduceAdd, Nat.reduceLT, Nat.reduceLeDiff, Nat.reducePow, Nat.reduceEqDiff, ↓reduceIte, reduceCtorEq, Int.reduceToNat, Tryd.ntmps9]
          first | refine wpAct_call0 (c) rfl rfl rfl rfl rfl rfl rfl rfl ?_ | done
          simp (maxSteps := 400000) -dsimp -implicitDefEqProofs (disch := first | exact TrueB.mk rfl | omega) only [go_sem, Nat.reduceMul, Nat.reduceAdd, Nat.reduceLT, Nat.reduceLeDiff, Nat.reducePow, Nat.reduceEqDiff, ↓reduceIte, reduceCtorEq, Int.reduceToNat]
          first | exact rfl | done
        · subst h2
          refine Runs.of Tryd.func9 rfl (by simp [Tryd.ntmps9]) ?_
          simp (maxSteps := 400000) -dsimp -implicitDefEqProofs (disch := first | exact TrueB.mk rfl | omega) only [go_sem, Nat.reduceMul, Nat.reduceAdd, Nat.reduceLT, Nat.reduceLeDiff, Nat.reducePow, Nat.reduceEqDiff, ↓reduceIte, reduceCtorEq, Int.reduceToNat, Tryd.ntmps9]
          first | refine wpAct_call0 (c) rfl rfl rfl rfl rfl rfl rfl rfl ?_ | done
          simp (maxSteps := 400000) -dsimp -implicitDefEqProofs (disch := first | exact TrueB.mk rfl | omega) only [go_sem, Nat.reduceMul, Nat.reduceAdd, Nat.reduceLT, Nat.reduceLeDiff, Nat.reducePow, Nat.reduceEqDiff, ↓reduceIte, reduceCtorEq, Int.reduceToNat]
          first | exact rfl | done
      | cons x t =>
        have c' : Runs Tryd.prog env 16 [.pure false (.int .i64 s), .pure false (.int .i64 e)] [] (.tuple [.pure f (.int .i64 n), .row 0 (t.length + 1), .pure true (.bool true)]) [(0, .row true 1 0 (intsOf (x :: t)))] := c
        rcases h1 with ⟨h2, h3⟩ | ⟨h2, h3⟩
        · subst h2 h3
          refine Runs.of Tryd.func9 rfl (by simp [Tryd.ntmps9]) ?_
          simp (maxSteps := 400000) -dsimp -implicitDefEqProofs (disch := first | exact TrueB.mk rfl | omega) only [go_sem, Nat.reduceMul, Nat.reduceAdd, Nat.reduceLT, Nat.reduceLeDiff, Nat.reducePow, Nat.reduceEqDiff, ↓reduceIte, reduceCtorEq, Int.reduceToNat, Tryd.ntmps9]
          refine wpAct_callG c' rfl rfl rfl rfl rfl rfl (newR _ _ _ _) rfl rfl ?_
          simp (maxSteps := 400000) -dsimp -implicitDefEqProofs (disch := first | exact TrueB.mk rfl | omega) only [go_sem, Nat.reduceMul, Nat.reduceAdd, Nat.reduceLT, Nat.reduceLeDiff, Nat.reducePow, Nat.reduceEqDiff, ↓reduceIte, reduceCtorEq, Int.reduceToNat]
          first | exact rfl | done
        · subst h2
          refine Runs.of Tryd.func9 rfl (by simp [Tryd.ntmps9]) ?_
          simp (maxSteps := 400000) -dsimp -implicitDefEqProofs (disch := first | exact TrueB.mk rfl | omega) only [go_sem, Nat.reduceMul, Nat.reduceAdd, Nat.reduceLT, Nat.reduceLeDiff, Nat.reducePow, Nat.reduceEqDiff, ↓reduceIte, reduceCtorEq, Int.reduceToNat, Tryd.ntmps9]
          refine wpAct_callG c' rfl rfl rfl rfl rfl rfl (newR _ _ _ _) rfl rfl ?_
          simp (maxSteps := 400000) -dsimp -implicitDefEqProofs (disch := first | exact TrueB.mk rfl | omega) only [go_sem, Nat.reduceMul, Nat.reduceAdd, Nat.reduceLT, Nat.reduceLeDiff, Nat.reducePow, Nat.reduceEqDiff, ↓reduceIte, reduceCtorEq, Int.reduceToNat]
          first | exact rfl | done
    · cases h

set_option maxHeartbeats 8000000 in
theorem stepZ_empty (s e r cf tm : Int) (h3 : 0 ≤ r ∧ r ≤ 255) {n : Nat} (h : stepOut s e r = some (n, [])) :
    Runs Tryd.prog env 9 [.pure true (confV cf tm 1), .pure false (autV s r), .pure false (.int .i64 e)] [] (.tuple [.pure false (autV n r), .pure false (.sl []), .pure true (.bool true)]) [] := by
  obtain ⟨f, c⟩ := lookz_any s e
  unfold stepOut at h
  unfold confV autV
  generalize cellI s e = C at *
  cases C with
  | none => cases h
  | some p =>
    simp only at h
    split at h
    · cases h
    · rename_i h4
      cases h
      unfold lookZR lookZS at c
      have h5 : ¬ (e = 5 ∧ r = 0) := fun h => h4 (.inl h)
      have h6 : ¬ (e = 6 ∧ 0 < r) := fun h => h4 (.inr h)
      clear h4
      have h8 : e = 5 ∨ e = 6 ∨ (¬ e = 5 ∧ ¬ e = 6) := by omega
      rcases h8 with rfl | rfl | ⟨h7, h8⟩
      all_goals
        refine Runs.of Tryd.func9 rfl (by simp [Tryd.ntmps9]) ?_
        simp (maxSteps := 400000) -dsimp -implicitDefEqProofs (disch := first | exact TrueB.mk rfl | omega) only [go_sem, Nat.reduceMul, Nat.reduceAdd, Nat.reduceLT, Nat.reduceLeDiff, Nat.reducePow, Nat.reduceEqDiff, ↓reduceIte, reduceCtorEq, Int.reduceToNat, Tryd.ntmps9]
        first | refine wpAct_call0 (c) rfl rfl rfl rfl rfl rfl rfl rfl ?_ | done
        simp (maxSteps := 400000) -dsimp -implicitDefEqProofs (disch := first | exact TrueB.mk rfl | omega) only [go_sem, Nat.reduceMul, Nat.reduceAdd, Nat.reduceLT, Nat.reduceLeDiff, Nat.reducePow, Nat.reduceEqDiff, ↓reduceIte, reduceCtorEq, Int.reduceToNat]
        refine wpLoop_ind (α := Nat)
          (fun a => ⟨[(3, .ptr 1264 0), (4, .ptr 1265 0), (6, .ptr 1266 0), (10, .pure false (.sl [])), (45, .pure false (.sl [])), (46, .pure true (.int .i64 0)), (47, .pure true (.int .i64 0))], [(1264, .box [.pure true (.int .i64 cf), .pure true (.int .i64 tm), .pure true (.int .i64 1), .pure true (.int .i64 0), .pure true (.str []), .pure true (.str []), .pure true (.int .i64 0), .pure true (.int .u32 0), .pure true (.bool false)]), (1265, .box [.pure false (.int .i64 n), .pure false (.int .i64 r)]), (1266, .box [.pure true (.int .i64 0), .pure true (.int .i64 0)])]⟩)
          (fun _ => True) (fun _ => 0) ?_ 0 trivial rfl
        rintro i -
        simp (maxSteps := 400000) -dsimp -implicitDefEqProofs (disch := first | exact TrueB.mk rfl | omega) only [go_sem, Nat.reduceMul, Nat.reduceAdd, Nat.reduceLT, Nat.reduceLeDiff, Nat.reducePow, Nat.reduceEqDiff, ↓reduceIte, reduceCtorEq, Int.reduceToNat]
        rfl

set_option maxHeartbeats 64000000 in
theorem stepZ_yes (s e r cf tm : Int) (h1 : 1 ≤ cf ∧ cf ≤ 255) (h2 : 1 ≤ tm ∧ tm ≤ 255) (h3 : 0 ≤ r ∧ r ≤ 255) {n : Nat} {l : List Nat} (h : stepOut s e r = some (n, l)) (hl : l.length ≤ 100) (hpos : 0 < l.length) :
    ∃ q x, Runs Tryd.prog env 9 [.pure true (confV cf tm 1), .pure false (autV s r), .pure false (.int .i64 e)] [] (.tuple [.pure q (autV n x), .row 0 l.length, .pure true (.bool true)]) [(0, .row true 1 0 (intsOf l))] := by
  obtain ⟨f, c⟩ := lookz_any s e
  unfold stepOut at h
  unfold confV autV
  generalize cellI s e = C at *
  cases C with
  | none => cases h
  | some p =>
    obtain ⟨n', l'⟩ := p
    simp only at h
    split at h
    · cases h
    · rename_i h4
      cases h
      have h5 : ¬ (e = 5 ∧ r = 0) := fun h => h4 (.inl h)
      have h6 : ¬ (e = 6 ∧ 0 < r) := fun h => h4 (.inr h)
      clear h4
      have hil := intsOf_length l
      have c' : Runs Tryd.prog env 16 [.pure false (.int .i64 s), .pure false (.int .i64 e)] [] (.tuple [.pure f (.int .i64 n), .row 0 l.length, .pure true (.bool true)]) [(0, .row true 1 0 (intsOf l))] := by
        cases l with
        | nil => simp at hpos
        | cons x t => exact c
      clear c
      have h8 : e = 5 ∨ e = 6 ∨ (¬ e = 5 ∧ ¬ e = 6) := by omega
      obtain ⟨T, hT⟩ : ∃ T, restA cf tm l r = T := ⟨_, rfl⟩
      obtain ⟨U, hU⟩ : ∃ U, flagZ cf tm l r false = U := ⟨_, rfl⟩
      refine ⟨f && U, T, ?_⟩
      rcases h8 with rfl | rfl | ⟨h7, h8⟩
      all_goals
        refine Runs.of Tryd.func9 rfl (by simp [Tryd.ntmps9]) ?_
        simp (maxSteps := 400000) -dsimp -implicitDefEqProofs (disch := first | exact TrueB.mk rfl | omega) only [go_sem, Nat.reduceMul, Nat.reduceAdd, Nat.reduceLT, Nat.reduceLeDiff, Nat.reducePow, Nat.reduceEqDiff, ↓reduceIte, reduceCtorEq, Int.reduceToNat, Tryd.ntmps9]
        refine wpAct_callG c' rfl rfl rfl rfl rfl rfl (newR _ _ _ _) rfl rfl ?_
        simp (maxSteps := 400000) -dsimp -implicitDefEqProofs (disch := first | exact TrueB.mk rfl | omega) only [go_sem, Nat.reduceMul, Nat.reduceAdd, Nat.reduceLT, Nat.reduceLeDiff, Nat.reducePow, Nat.reduceEqDiff, ↓reduceIte, reduceCtorEq, Int.reduceToNat, hil]
        refine wpLoop_ind (α := Nat × Int × Bool × Nat)
          (fun a => ⟨[(3, .ptr 1264 0), (4, .ptr 1265 0), (6, .ptr 1266 0), (10, .row 1267 l.length), (45, .row 1267 l.length), (46, .pure true (.int .i64 (l.length : Nat))), (47, .pure true (.int .i64 (a.1 : Nat)))], [(1264, .box [.pure true (.int .i64 cf), .pure true (.int .i64 tm), .pure true (.int .i64 1), .pure true (.int .i64 0), .pure true (.str []), .pure true (.str []), .pure true (.int .i64 0), .pure true (.int .u32 0), .pure true (.bool false)]), (1265, .box [.pure f (.int .i64 n), .pure a.2.2.1 (.int .i64 a.2.1)]), (1266, .box [.pure true (.int .i64 0), .pure true (.int .i64 0)]), (1267, .row true 1 a.2.2.2 (intsOf l))]⟩)
          (fun a => a.1 ≤ l.length ∧ (0 ≤ a.2.1 ∧ a.2.1 ≤ 255) ∧ restA cf tm (l.drop a.1) a.2.1 = T ∧ flagZ cf tm (l.drop a.1) a.2.1 a.2.2.1 = U) (fun a => l.length - a.1) ?_ (0, r, false, 0) ⟨by simp, h3, hT, hU⟩ rfl
        rintro ⟨i, x, q, lim⟩ ⟨i1, i2, i3, i4⟩
        simp only at i1 i2 i3 i4
        rcases Classical.em (i < l.length) with hlt | hge
        · have g1 := ints_at hlt
          have wx : IntKind.i64.wrap (x - 1) = x - 1 := by rw [wrap_i64 (by omega) (by omega)]
          have hmax : ∀ q : Bool, maxV (x - 1) [SV.pure q (.int .i64 0)] = some (if 0 < x then x - 1 else 0) := by
            intro q
            simp only [maxV]
            split <;> split <;> first | rfl | (exfalso; omega) | (congr 1; omega)
          have cc := fun m m' => contains_any (l.drop i) 10 (by simp; omega) m m'
          have hin := fun ten => actA_in (k := l[i]) (ten := ten) h1 h2 i2
          rw [drop_at hlt, restA_cons, ← drop_at hlt] at i3
          rw [drop_at hlt, flagZ_cons, ← drop_at hlt] at i4
          have hd := @ints_drop l i
          have ht : List.take (l.length - i) (intsOf (l.drop i)) = intsOf (l.drop i) := List.take_of_length_le (by simp [intsOf_length])
          have ha := allW_ints l
          have htk : List.take l.length (intsOf l) = intsOf l := List.take_of_length_le (by simp [intsOf_length])
          generalize l[i] = k at *
          rcases Classical.em (k = 5) with rfl | k5
          · have g2 : (intsOf l)[i]? = some (.int .i64 5) := g1
            cases hh : hasN (l.drop i) 10 with
            | true =>
              rw [hh] at cc i3 i4
              simp (maxSteps := 400000) -dsimp -implicitDefEqProofs (disch := first | exact TrueB.mk rfl | omega) only [go_sem, Nat.reduceMul, Nat.reduceAdd, Nat.reduceLT, Nat.reduceLeDiff, Nat.reducePow, Nat.reduceEqDiff, ↓reduceIte, reduceCtorEq, Int.reduceToNat, g2, htk, hd, ht, ha, hil]
              first | refine wpAct_call0 (cc _ _) rfl rfl rfl rfl rfl rfl rfl rfl ?_ | done
              simp (maxSteps := 400000) -dsimp -implicitDefEqProofs (disch := first | exact TrueB.mk rfl | omega) only [go_sem, Nat.reduceMul, Nat.reduceAdd, Nat.reduceLT, Nat.reduceLeDiff, Nat.reducePow, Nat.reduceEqDiff, ↓reduceIte, reduceCtorEq, Int.reduceToNat, hil]
              exact again_mk ⟨(i + 1, tm, true, _), ⟨by simp only; omega, hin true, i3, i4⟩, by simp only; omega, rfl⟩
            | false =>
              rw [hh] at cc i3 i4
              simp (maxSteps := 400000) -dsimp -implicitDefEqProofs (disch := first | exact TrueB.mk rfl | omega) only [go_sem, Nat.reduceMul, Nat.reduceAdd, Nat.reduceLT, Nat.reduceLeDiff, Nat.reducePow, Nat.reduceEqDiff, ↓reduceIte, reduceCtorEq, Int.reduceToNat, g2, htk, hd, ht, ha, hil]
              first | refine wpAct_call0 (cc _ _) rfl rfl rfl rfl rfl rfl rfl rfl ?_ | done
              simp (maxSteps := 400000) -dsimp -implicitDefEqProofs (disch := first | exact TrueB.mk rfl | omega) only [go_sem, Nat.reduceMul, Nat.reduceAdd, Nat.reduceLT, Nat.reduceLeDiff, Nat.reducePow, Nat.reduceEqDiff, ↓reduceIte, reduceCtorEq, Int.reduceToNat, hil]
              exact again_mk ⟨(i + 1, cf, true, _), ⟨by simp only; omega, hin false, i3, i4⟩, by simp only; omega, rfl⟩
          · rcases Classical.em (k = 6) with rfl | k6
            · have g2 : (intsOf l)[i]? = some (.int .i64 6) := g1
              simp (maxSteps := 400000) -dsimp -implicitDefEqProofs (disch := first | exact TrueB.mk rfl | omega) only [go_sem, Nat.reduceMul, Nat.reduceAdd, Nat.reduceLT, Nat.reduceLeDiff, Nat.reducePow, Nat.reduceEqDiff, ↓reduceIte, reduceCtorEq, Int.reduceToNat, g2, hil]
              exact again_mk ⟨(i + 1, 0, true, lim), ⟨by simp only; omega, by simp, i3, i4⟩, by simp only; omega, rfl⟩
            · rcases Classical.em (k = 7 ∨ k = 10) with hk7 | k7
              · have a1 : ∀ ten, actA cf tm k ten x = if 0 < x then x - 1 else 0 := fun ten => by
                  unfold actA
                  rw [if_neg k5, if_neg k6, if_pos hk7]
                rw [a1] at i3 i4
                rw [if_neg k5, if_pos (show k = 6 ∨ k = 7 ∨ k = 10 from .inr hk7)] at i4
                have hin' := hin true
                rw [a1] at hin'
                rcases hk7 with rfl | rfl
                · have g2 : (intsOf l)[i]? = some (.int .i64 7) := g1
                  simp (maxSteps := 400000) -dsimp -implicitDefEqProofs (disch := first | exact TrueB.mk rfl | omega) only [go_sem, Nat.reduceMul, Nat.reduceAdd, Nat.reduceLT, Nat.reduceLeDiff, Nat.reducePow, Nat.reduceEqDiff, ↓reduceIte, reduceCtorEq, Int.reduceToNat, g2, wx, hmax, hil]
                  exact again_mk ⟨(i + 1, if 0 < x then x - 1 else 0, true, lim), ⟨by simp only; omega, hin', i3, i4⟩, by simp only; omega, rfl⟩
                · have g2 : (intsOf l)[i]? = some (.int .i64 10) := g1
                  simp (maxSteps := 400000) -dsimp -implicitDefEqProofs (disch := first | exact TrueB.mk rfl | omega) only [go_sem, Nat.reduceMul, Nat.reduceAdd, Nat.reduceLT, Nat.reduceLeDiff, Nat.reducePow, Nat.reduceEqDiff, ↓reduceIte, reduceCtorEq, Int.reduceToNat, g2, wx, hmax, hil]
                  exact again_mk ⟨(i + 1, if 0 < x then x - 1 else 0, true, lim), ⟨by simp only; omega, hin', i3, i4⟩, by simp only; omega, rfl⟩
              · have a1 : ∀ ten, actA cf tm k ten x = x := fun ten => by
                  unfold actA
                  rw [if_neg k5, if_neg k6, if_neg k7]
                rw [a1] at i3 i4
                rw [if_neg k5, if_neg (fun h => h.elim k6 k7)] at i4
                simp (maxSteps := 400000) -dsimp -implicitDefEqProofs (disch := first | exact TrueB.mk rfl | omega) only [go_sem, Nat.reduceMul, Nat.reduceAdd, Nat.reduceLT, Nat.reduceLeDiff, Nat.reducePow, Nat.reduceEqDiff, ↓reduceIte, reduceCtorEq, Int.reduceToNat, g1, hil]
                exact again_mk ⟨(i + 1, x, q, lim), ⟨by simp only; omega, i2, i3, i4⟩, by simp only; omega, rfl⟩
        · have hdn : l.drop i = [] := List.drop_eq_nil_of_le (by omega)
          rw [hdn] at i3 i4
          have i5 : x = T := i3
          have i6 : q = U := i4
          subst i5 i6
          simp (maxSteps := 400000) -dsimp -implicitDefEqProofs (disch := first | exact TrueB.mk rfl | omega) only [go_sem, Nat.reduceMul, Nat.reduceAdd, Nat.reduceLT, Nat.reduceLeDiff, Nat.reducePow, Nat.reduceEqDiff, ↓reduceIte, reduceCtorEq, Int.reduceToNat, hil]
          cases f <;> cases q <;>
            (refine Eq.trans (end_crv (x := .agg [.int .i64 n, .int .i64 x]) (y := .bool true) rfl rfl rfl rfl rfl rfl rfl hil.symm rfl rfl rfl rfl) ?_
             rw [ints_scalar]
             rfl)
end Go.Proofs.YtkjoolmkgpmlfaaDoorZ
