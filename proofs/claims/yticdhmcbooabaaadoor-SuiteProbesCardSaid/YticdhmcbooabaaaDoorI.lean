/- YticdhmcbooabaaaDoorI: lists; the program's step. No claim. -/
import Derived.Test.YticdhmcbooabaaaDoorH
set_option linter.unusedVariables false
set_option linter.unusedSimpArgs false
set_option maxRecDepth 100000
namespace Go.Proofs.YticdhmcbooabaaaDoor
open Go Go.Proofs.YticdhmcbooabaaaDoor.V

theorem beq_same {α : Type} [BEq α] [LawfulBEq α] (s : α) : (s == s) = true := by simp
def confV (a b c : Int) : PV := .agg [.int .i64 a, .int .i64 b, .int .i64 c, .int .i64 0, .str [], .str [], .int .i64 0, .int .u32 0, .bool false]
def autV (s r : Int) : PV := .agg [.int .i64 s, .int .i64 r]
def hasN (l : List Nat) (n : Nat) : Bool := l.contains n
theorem has_cons {k : Nat} {t : List Nat} {n : Nat} : hasN (k :: t) n = (decide (k = n) || hasN t n) := by
  unfold hasN
  rw [List.contains_cons]
  congr 1
  rw [Bool.eq_iff_iff, beq_iff_eq, decide_eq_true_eq]
  exact eq_comm
theorem has_first {l : List Nat} {n : Nat} (h : hasN l n = true) : ∃ j, ∃ hj : j < l.length, l[j] = n ∧ ∀ i (hi : i < l.length), i < j → l[i] ≠ n := by
  induction l with
  | nil => cases h
  | cons k t ih =>
    rw [has_cons] at h
    by_cases hk : k = n
    · exact ⟨0, by simp, hk, fun i hi h => by omega⟩
    · rw [decide_eq_false hk, Bool.false_or] at h
      obtain ⟨j, hj, h1, h2⟩ := ih h
      refine ⟨j + 1, by simp; omega, by simpa using h1, fun i hi hij => ?_⟩
      cases i with
      | zero => exact hk
      | succ i =>
        have := h2 i (by simp at hi; omega) (by omega)
        simpa using this
theorem has_none {l : List Nat} {n : Nat} (h : hasN l n = false) (i : Nat) (hi : i < l.length) : l[i] ≠ n := by
  intro e
  have : hasN l n = true := by
    unfold hasN
    rw [List.contains_iff_mem]
    exact e ▸ List.getElem_mem hi
  rw [h] at this
  cases this

set_option maxHeartbeats 4000000 in
theorem index_yes (l : List Nat) (n : Nat) (hl : l.length ≤ 1000) {j : Nat} (hj : j < l.length) (h1 : l[j] = n) (h2 : ∀ i (hi : i < l.length), i < j → l[i] ≠ n) (m m' : Bool) : Runs Tryd.prog env 44 [.pure m (.sl (intsOf l)), .pure m' (.int .i64 (n : Nat))] [] (.pure true (.int .i64 (j : Nat))) [] := by
  refine Runs.of Tryd.func44 rfl (by simp [Tryd.ntmps44]) ?_
  simp (maxSteps := 400000) -dsimp -implicitDefEqProofs (disch := first | exact TrueB.mk rfl | omega) only [go_sem, Tryd.ntmps44, intsOf_length]
  refine wpLoop_ind (α := Nat)
    (fun i => ⟨[(0, .pure m (.sl (intsOf l))), (1, .pure m' (.int .i64 (n : Nat))), (7, .pure true (.int .i64 (l.length : Nat))), (8, .pure true (.int .i64 i))], []⟩)
    (fun i => i ≤ j) (fun i => l.length - i) ?_ 0 (by omega) rfl
  rintro i hi
  have hlt : i < l.length := by omega
  have g1 := ints_at hlt
  rcases Classical.em (i = j) with rfl | h3
  · have h4 : ((n : Nat) : Int) = ((l[i] : Nat) : Int) := by omega
    simp (maxSteps := 400000) -dsimp -implicitDefEqProofs (disch := first | exact TrueB.mk rfl | omega) only [go_sem, g1, h4]
    first | exact end_int rfl rfl | done
  · have h5 := h2 i hlt (by omega)
    have h4 : ¬ ((n : Nat) : Int) = ((l[i] : Nat) : Int) := by omega
    simp (maxSteps := 400000) -dsimp -implicitDefEqProofs (disch := first | exact TrueB.mk rfl | omega) only [go_sem, g1, h4]
    first | exact again_mk ⟨i + 1, by omega, by omega, rfl⟩ | done

set_option maxHeartbeats 4000000 in
theorem index_no (l : List Nat) (n : Nat) (hl : l.length ≤ 1000) (h2 : ∀ i (hi : i < l.length), l[i] ≠ n) (m m' : Bool) : Runs Tryd.prog env 44 [.pure m (.sl (intsOf l)), .pure m' (.int .i64 (n : Nat))] [] (.pure true (.int .i64 (-1))) [] := by
  refine Runs.of Tryd.func44 rfl (by simp [Tryd.ntmps44]) ?_
  simp (maxSteps := 400000) -dsimp -implicitDefEqProofs (disch := first | exact TrueB.mk rfl | omega) only [go_sem, Tryd.ntmps44, intsOf_length]
  refine wpLoop_ind (α := Nat)
    (fun i => ⟨[(0, .pure m (.sl (intsOf l))), (1, .pure m' (.int .i64 (n : Nat))), (7, .pure true (.int .i64 (l.length : Nat))), (8, .pure true (.int .i64 i))], []⟩)
    (fun i => i ≤ l.length) (fun i => l.length - i) ?_ 0 (by omega) rfl
  rintro i hi
  rcases Classical.em (i < l.length) with hlt | h3
  · have g1 := ints_at hlt
    have h5 := h2 i hlt
    have h4 : ¬ ((n : Nat) : Int) = ((l[i] : Nat) : Int) := by omega
    simp (maxSteps := 400000) -dsimp -implicitDefEqProofs (disch := first | exact TrueB.mk rfl | omega) only [go_sem, g1, h4]
    first | exact again_mk ⟨i + 1, by omega, by omega, rfl⟩ | done
  · simp (maxSteps := 400000) -dsimp -implicitDefEqProofs (disch := first | exact TrueB.mk rfl | omega) only [go_sem]
    first | exact end_int rfl rfl | done

set_option maxHeartbeats 4000000 in
theorem contains_any (l : List Nat) (n : Nat) (hl : l.length ≤ 1000) (m m' : Bool) : Runs Tryd.prog env 54 [.pure m (.sl (intsOf l)), .pure m' (.int .i64 (n : Nat))] [] (.pure true (.bool (hasN l n))) [] := by
  cases h : hasN l n with
  | true =>
    obtain ⟨j, hj, h1, h2⟩ := has_first h
    have c := fun m m' => index_yes l n hl hj h1 h2 m m'
    refine Runs.of Tryd.func54 rfl (by simp [Tryd.ntmps54]) ?_
    simp (maxSteps := 400000) -dsimp -implicitDefEqProofs (disch := first | exact TrueB.mk rfl | omega) only [go_sem, Tryd.ntmps54]
    first | refine wpAct_call0 (c _ _) rfl rfl rfl rfl rfl rfl rfl rfl ?_ | done
    simp (maxSteps := 400000) -dsimp -implicitDefEqProofs (disch := first | exact TrueB.mk rfl | omega) only [go_sem]
    first | exact end_bool rfl rfl | done
  | false =>
    have c := fun m m' => index_no l n hl (has_none h) m m'
    refine Runs.of Tryd.func54 rfl (by simp [Tryd.ntmps54]) ?_
    simp (maxSteps := 400000) -dsimp -implicitDefEqProofs (disch := first | exact TrueB.mk rfl | omega) only [go_sem, Tryd.ntmps54]
    first | refine wpAct_call0 (c _ _) rfl rfl rfl rfl rfl rfl rfl rfl ?_ | done
    simp (maxSteps := 400000) -dsimp -implicitDefEqProofs (disch := first | exact TrueB.mk rfl | omega) only [go_sem]
    first | exact end_bool rfl rfl | done

/-- What an action does to the count. -/
def actA (cf tm : Int) (k : Nat) (ten : Bool) (r : Int) : Int := if k = 5 then (if ten then tm else cf) else if k = 6 then 0 else if k = 7 ∨ k = 10 then (if 0 < r then r - 1 else 0) else r
def restA (cf tm : Int) : List Nat → Int → Int
  | [], r => r
  | k :: t, r => restA cf tm t (actA cf tm k (hasN (k :: t) 10) r)
theorem actA_in {cf tm r : Int} {k : Nat} {ten : Bool} (h1 : 1 ≤ cf ∧ cf ≤ 255) (h2 : 1 ≤ tm ∧ tm ≤ 255) (h3 : 0 ≤ r ∧ r ≤ 255) : 0 ≤ actA cf tm k ten r ∧ actA cf tm k ten r ≤ 255 := by
  unfold actA
  split
  · split <;> omega
  · split
    · omega
    · split
      · split <;> omega
      · omega
theorem restA_in {cf tm : Int} {l : List Nat} : ∀ {r : Int}, (1 ≤ cf ∧ cf ≤ 255) → (1 ≤ tm ∧ tm ≤ 255) → (0 ≤ r ∧ r ≤ 255) → 0 ≤ restA cf tm l r ∧ restA cf tm l r ≤ 255 := by
  induction l with
  | nil => exact fun _ _ h => h
  | cons k t ih => exact fun h1 h2 h3 => ih h1 h2 (actA_in h1 h2 h3)
theorem drop_at {l : List Nat} {i : Nat} (h : i < l.length) : l.drop i = l[i] :: l.drop (i + 1) := List.drop_eq_getElem_cons h
theorem ints_drop {l : List Nat} {i : Nat} : (intsOf l).drop i = intsOf (l.drop i) := by simp [intsOf]

theorem allW_ints (l : List Nat) : allW 1 (intsOf l) = true := by
  induction l with
  | nil => rfl
  | cons k t ih => exact ih

def stepOut (s e r : Int) : Option (Nat × List Nat) := match cellI s e with
  | none => none
  | some p => if (e = 5 ∧ r = 0) ∨ (e = 6 ∧ 0 < r) then none else some p

set_option maxHeartbeats 8000000 in
theorem stepA_no (s e r cf tm : Int) (h0 : 0 ≤ r) (h : stepOut s e r = none) (mc m m' : Bool) : Runs Tryd.prog env 53 [.pure mc (confV cf tm 1), .pure m (autV s r), .pure m' (.int .i64 e)] [] (.tuple [.pure true (autV 0 0), .row 0 0, .pure true (.bool false)]) [(0, .row true 0 0 [])] := by
  have c := fun m m' => look_any s e m m'
  unfold stepOut at h
  unfold confV autV
  generalize cellI s e = C at *
  cases C with
  | none =>
    unfold lookR at c
    refine Runs.of Tryd.func53 rfl (by simp [Tryd.ntmps53]) ?_
    simp (maxSteps := 400000) -dsimp -implicitDefEqProofs (disch := first | exact TrueB.mk rfl | omega) only [go_sem, Tryd.ntmps53]
    first | refine wpAct_call0 (c _ _) rfl rfl rfl rfl rfl rfl rfl rfl ?_ | done
    simp (maxSteps := 400000) -dsimp -implicitDefEqProofs (disch := first | exact TrueB.mk rfl | omega) only [go_sem]
    first | exact rfl | done
  | some p =>
    obtain ⟨n, l⟩ := p
    unfold lookR at c
    simp only at h
    split at h
    · rename_i h1
      rcases h1 with ⟨h2, h3⟩ | ⟨h2, h3⟩
      · subst h2 h3
        refine Runs.of Tryd.func53 rfl (by simp [Tryd.ntmps53]) ?_
        simp (maxSteps := 400000) -dsimp -implicitDefEqProofs (disch := first | exact TrueB.mk rfl | omega) only [go_sem, Tryd.ntmps53]
        first | refine wpAct_call0 (c _ _) rfl rfl rfl rfl rfl rfl rfl rfl ?_ | done
        simp (maxSteps := 400000) -dsimp -implicitDefEqProofs (disch := first | exact TrueB.mk rfl | omega) only [go_sem]
        first | exact rfl | done
      · subst h2
        refine Runs.of Tryd.func53 rfl (by simp [Tryd.ntmps53]) ?_
        simp (maxSteps := 400000) -dsimp -implicitDefEqProofs (disch := first | exact TrueB.mk rfl | omega) only [go_sem, Tryd.ntmps53]
        first | refine wpAct_call0 (c _ _) rfl rfl rfl rfl rfl rfl rfl rfl ?_ | done
        simp (maxSteps := 400000) -dsimp -implicitDefEqProofs (disch := first | exact TrueB.mk rfl | omega) only [go_sem]
        first | exact rfl | done
    · cases h

set_option maxHeartbeats 32000000 in
theorem stepA_yes (s e r cf tm : Int) (h1 : 1 ≤ cf ∧ cf ≤ 255) (h2 : 1 ≤ tm ∧ tm ≤ 255) (h3 : 0 ≤ r ∧ r ≤ 255) {n : Nat} {l : List Nat} (h : stepOut s e r = some (n, l)) (hl : l.length ≤ 100) (mc m m' : Bool) :
    Runs Tryd.prog env 53 [.pure mc (confV cf tm 1), .pure m (autV s r), .pure m' (.int .i64 e)] [] (.tuple [.pure false (autV n (restA cf tm l r)), .pure false (.sl (intsOf l)), .pure true (.bool true)]) [] := by
  have c := fun m m' => look_any s e m m'
  unfold stepOut at h
  unfold confV autV
  generalize cellI s e = C at *
  cases C with
  | none => cases h
  | some p =>
    obtain ⟨n', l'⟩ := p
    unfold lookR at c
    simp only at h
    split at h
    · cases h
    · rename_i h4
      cases h
      have h5 : ¬ (e = 5 ∧ r = 0) := fun h => h4 (.inl h)
      have h6 : ¬ (e = 6 ∧ 0 < r) := fun h => h4 (.inr h)
      clear h4
      have hil := intsOf_length l
      have h8 : e = 5 ∨ e = 6 ∨ (¬ e = 5 ∧ ¬ e = 6) := by omega
      rcases h8 with rfl | rfl | ⟨h7, h8⟩
      all_goals
        refine Runs.of Tryd.func53 rfl (by simp [Tryd.ntmps53]) ?_
        simp (maxSteps := 400000) -dsimp -implicitDefEqProofs (disch := first | exact TrueB.mk rfl | omega) only [go_sem, Tryd.ntmps53]
        first | refine wpAct_call0 (c _ _) rfl rfl rfl rfl rfl rfl rfl rfl ?_ | done
        simp (maxSteps := 400000) -dsimp -implicitDefEqProofs (disch := first | exact TrueB.mk rfl | omega) only [go_sem, hil]
        refine wpLoop_ind (α := Nat × Int × Bool)
          (fun a => ⟨[(3, .ptr 1264 0), (4, .ptr 1265 0), (6, .ptr 1266 0), (10, .pure false (.sl (intsOf l))), (45, .pure false (.sl (intsOf l))), (46, .pure true (.int .i64 (l.length : Nat))), (47, .pure true (.int .i64 (a.1 : Nat)))], [(1264, .box [.pure mc (.int .i64 cf), .pure mc (.int .i64 tm), .pure mc (.int .i64 1), .pure mc (.int .i64 0), .pure mc (.str []), .pure mc (.str []), .pure mc (.int .i64 0), .pure mc (.int .u32 0), .pure mc (.bool false)]), (1265, .box [.pure false (.int .i64 n), .pure a.2.2 (.int .i64 a.2.1)]), (1266, .box [.pure true (.int .i64 0), .pure true (.int .i64 0)])]⟩)
          (fun a => a.1 ≤ l.length ∧ (0 ≤ a.2.1 ∧ a.2.1 ≤ 255) ∧ restA cf tm (l.drop a.1) a.2.1 = restA cf tm l r) (fun a => l.length - a.1) ?_ (0, r, m) ⟨by simp, h3, rfl⟩ rfl
        rintro ⟨i, x, q⟩ ⟨i1, i2, i3⟩
        simp only at i1 i2 i3
        rcases Classical.em (i < l.length) with hlt | hge
        · have g1 := ints_at hlt
          have wx : IntKind.i64.wrap (x - 1) = x - 1 := by rw [wrap_i64 (by omega) (by omega)]
          have hmax : ∀ q : Bool, maxV (x - 1) [SV.pure q (.int .i64 0)] = some (if 0 < x then x - 1 else 0) := by
            intro q
            simp only [maxV]
            split <;> split <;> first | rfl | (exfalso; omega) | (congr 1; omega)
          have cc := fun m m' => contains_any (l.drop i) 10 (by simp; omega) m m'
          have hin := fun ten => actA_in (k := l[i]) (ten := ten) h1 h2 i2
          rw [drop_at hlt, restA, ← drop_at hlt] at i3
          have hd := @ints_drop l i
          have ht : List.take ((intsOf l).length - i) (intsOf (l.drop i)) = intsOf (l.drop i) := List.take_of_length_le (by simp [intsOf_length])
          have ha := allW_ints l
          generalize l[i] = k at *
          rcases Classical.em (k = 5) with rfl | k5
          · have g2 : (intsOf l)[i]? = some (.int .i64 5) := g1
            cases hh : hasN (l.drop i) 10 with
            | true =>
              rw [hh] at cc i3
              simp (maxSteps := 400000) -dsimp -implicitDefEqProofs (disch := first | exact TrueB.mk rfl | omega) only [go_sem, g2, hd, ht, ha]
              first | refine wpAct_call0 (cc _ _) rfl rfl rfl rfl rfl rfl rfl rfl ?_ | done
              simp (maxSteps := 400000) -dsimp -implicitDefEqProofs (disch := first | exact TrueB.mk rfl | omega) only [go_sem]
              exact again_mk ⟨(i + 1, tm, mc), ⟨by omega, hin true, i3⟩, by omega, rfl⟩
            | false =>
              rw [hh] at cc i3
              simp (maxSteps := 400000) -dsimp -implicitDefEqProofs (disch := first | exact TrueB.mk rfl | omega) only [go_sem, g2, hd, ht, ha]
              first | refine wpAct_call0 (cc _ _) rfl rfl rfl rfl rfl rfl rfl rfl ?_ | done
              simp (maxSteps := 400000) -dsimp -implicitDefEqProofs (disch := first | exact TrueB.mk rfl | omega) only [go_sem]
              exact again_mk ⟨(i + 1, cf, mc), ⟨by omega, hin false, i3⟩, by omega, rfl⟩
          · rcases Classical.em (k = 6) with rfl | k6
            · have g2 : (intsOf l)[i]? = some (.int .i64 6) := g1
              simp (maxSteps := 400000) -dsimp -implicitDefEqProofs (disch := first | exact TrueB.mk rfl | omega) only [go_sem, g2]
              exact again_mk ⟨(i + 1, 0, true), ⟨by omega, by simp, i3⟩, by omega, rfl⟩
            · rcases Classical.em (k = 7) with rfl | k7
              · have g2 : (intsOf l)[i]? = some (.int .i64 7) := g1
                simp (maxSteps := 400000) -dsimp -implicitDefEqProofs (disch := first | exact TrueB.mk rfl | omega) only [go_sem, g2, wx, hmax]
                exact again_mk ⟨(i + 1, if 0 < x then x - 1 else 0, true), ⟨by omega, hin true, i3⟩, by omega, rfl⟩
              · rcases Classical.em (k = 10) with rfl | k10
                · have g2 : (intsOf l)[i]? = some (.int .i64 10) := g1
                  simp (maxSteps := 400000) -dsimp -implicitDefEqProofs (disch := first | exact TrueB.mk rfl | omega) only [go_sem, g2, wx, hmax]
                  exact again_mk ⟨(i + 1, if 0 < x then x - 1 else 0, true), ⟨by omega, hin true, i3⟩, by omega, rfl⟩
                · simp (maxSteps := 400000) -dsimp -implicitDefEqProofs (disch := first | exact TrueB.mk rfl | omega) only [go_sem, g1]
                  have : actA cf tm k (hasN (l.drop i) 10) x = x := by
                    unfold actA
                    rw [if_neg k5, if_neg k6, if_neg (by omega)]
                  rw [this] at i3
                  exact again_mk ⟨(i + 1, x, q), ⟨by omega, i2, i3⟩, by omega, rfl⟩
        · have : l.drop i = [] := List.drop_eq_nil_of_le (by omega)
          rw [this] at i3
          have i4 : x = restA cf tm l r := i3
          simp (maxSteps := 400000) -dsimp -implicitDefEqProofs (disch := first | exact TrueB.mk rfl | omega) only [go_sem]
          rw [← i4]
          rfl
end Go.Proofs.YticdhmcbooabaaaDoor
