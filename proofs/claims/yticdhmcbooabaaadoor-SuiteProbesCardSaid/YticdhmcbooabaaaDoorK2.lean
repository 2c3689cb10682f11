/- YticdhmcbooabaaaDoorK2: the document's step. No claim. -/
import Derived.Test.YticdhmcbooabaaaDoorI
set_option linter.unusedVariables false
set_option linter.unusedSimpArgs false
set_option maxRecDepth 100000
namespace Go.Proofs.YticdhmcbooabaaaDoor
open Go Go.Proofs.YticdhmcbooabaaaDoor.V

/-- A value out of a cell, a row, a value. -/
theorem end_crv {P : Program} {sl : Slots} {S : Store} {m m' : Bool} {a ty kb off t2 t3 k n z lim : Nat} {xs : List PV} {x y x' y' : PV} {e : Eff} (h1 : get sl a = some (.ptr kb off)) (hl : loadV P 0 (get S) ty (.ptr kb off) = some e) (he : e.res = .pure m x) (hw : e.wr = []) (h2 : get sl t2 = some (.row k n)) (h3 : get sl t3 = some (.pure m' y)) (hk : get S k = some (.row true z lim xs)) (hn : n = xs.length) (hx : norm x = x') (hy : norm y = y') (hxs : x'.scalar = true) (hys : y'.scalar = true) :
    outV P 0 [.cell a ty, .tmp t2, .tmp t3] sl S = some (.tuple [.pure m x', .row 0 n, .pure m' y'], [(0, .row true z (if allScalar xs then 0 else lim) xs)]) := by
  subst hx hy
  simp only [outV, resAll, resOne, h1, hl, he, hw, h2, h3, back, single, leave, List.range_zero, refs, refsL, List.nil_append, List.append_nil, row_back hk]
  cases hs : allScalar xs <;> simp [takeAll, idx, ren, renL, hk, renO, reset, rowOf, hn, hs, hxs, hys, plainV]
theorem ints_scalar (l : List Nat) : allScalar (intsOf l) = true := by
  induction l with
  | nil => rfl
  | cons k t ih => exact ih

/-- Where the document's step and the program's agree: behind an Init, in a list, Term is next or nowhere. -/
def tenOk : List Nat → Bool
  | [] => true
  | k :: t => (k != 5 || (hasN t 10 == (t.head? == some 10))) && tenOk t
theorem tens : ∀ s : Fin 10, ∀ e : Fin 17, (match cellT s e with | none => true | some (n, l) => tenOk l && decide (l.length ≤ 100) && decide (n ≤ 9)) = true := by decide +kernel
theorem cell_ok {s e : Int} {n : Nat} {l : List Nat} (h : cellI s e = some (n, l)) : tenOk l = true ∧ l.length ≤ 100 ∧ n ≤ 9 := by
  unfold cellI at h
  split at h
  · have := tens ⟨s.toNat, by omega⟩ ⟨e.toNat, by omega⟩
    simp only [h, Bool.and_eq_true, decide_eq_true_eq] at this
    exact ⟨this.1.1, this.1.2, this.2⟩
  · cases h
theorem tenOk_drop : ∀ {i : Nat} {l : List Nat}, tenOk l = true → tenOk (l.drop i) = true := by
  intro i
  induction i with
  | zero => exact fun h => h
  | succ i ih =>
    intro l h
    cases l with
    | nil => exact h
    | cons k t =>
      unfold tenOk at h
      simp only [Bool.and_eq_true] at h
      exact ih h.2

set_option maxHeartbeats 8000000 in
theorem stepR_no (s e r cf tm : Int) (h0 : 0 ≤ r) (h : stepOut s e r = none) (mc m m' : Bool) : Runs Tryd.prog env 48 [.pure mc (confV cf tm 1), .pure m (autV s r), .pure m' (.int .i64 e)] [] (.tuple [.pure true (autV 0 0), .row 0 0, .pure true (.bool false)]) [(0, .row true 0 0 [])] := by
  have c := fun m m' => rlook_any s e m m'
  unfold stepOut at h
  unfold confV autV
  generalize cellI s e = C at *
  cases C with
  | none =>
    unfold rlookR rlookS at c
    refine Runs.of Tryd.func48 rfl (by simp [Tryd.ntmps48]) ?_
    simp (maxSteps := 400000) -dsimp -implicitDefEqProofs (disch := first | exact TrueB.mk rfl | omega) only [go_sem, Tryd.ntmps48]
    first | refine wpAct_callG (c _ _) rfl rfl rfl rfl rfl rfl rfl rfl rfl ?_ | done
    simp (maxSteps := 400000) -dsimp -implicitDefEqProofs (disch := first | exact TrueB.mk rfl | omega) only [go_sem]
    first | exact rfl | done
  | some p =>
    obtain ⟨n, l⟩ := p
    unfold rlookR rlookS at c
    simp only at h
    split at h
    · rename_i h1
      rcases h1 with ⟨h2, h3⟩ | ⟨h2, h3⟩
      · subst h2 h3
        refine Runs.of Tryd.func48 rfl (by simp [Tryd.ntmps48]) ?_
        simp (maxSteps := 400000) -dsimp -implicitDefEqProofs (disch := first | exact TrueB.mk rfl | omega) only [go_sem, Tryd.ntmps48]
        first | refine wpAct_callG (c _ _) rfl rfl rfl rfl rfl rfl rfl rfl rfl ?_ | done
        simp (maxSteps := 400000) -dsimp -implicitDefEqProofs (disch := first | exact TrueB.mk rfl | omega) only [go_sem]
        first | exact rfl | done
      · subst h2
        have h4 : ¬ r = 0 := by omega
        refine Runs.of Tryd.func48 rfl (by simp [Tryd.ntmps48]) ?_
        simp (maxSteps := 400000) -dsimp -implicitDefEqProofs (disch := first | exact TrueB.mk rfl | omega) only [go_sem, Tryd.ntmps48]
        first | refine wpAct_callG (c _ _) rfl rfl rfl rfl rfl rfl rfl rfl rfl ?_ | done
        simp (maxSteps := 400000) -dsimp -implicitDefEqProofs (disch := first | exact TrueB.mk rfl | omega) only [go_sem]
        first | exact rfl | done
    · cases h

/-- Whether the count is new memory's. -/
def flagR (cf tm : Int) (mc : Bool) : List Nat → Int → Bool → Bool
  | [], _, q => q
  | k :: t, r, q => flagR cf tm mc t (actA cf tm k (hasN (k :: t) 10) r) (if k = 5 then mc else if k = 6 then true else if (k = 7 ∨ k = 10) ∧ 0 < r then true else q)

theorem restA_cons {cf tm r : Int} {k : Nat} {t : List Nat} : restA cf tm (k :: t) r = restA cf tm t (actA cf tm k (hasN (k :: t) 10) r) := rfl
theorem flagR_cons {cf tm r : Int} {mc q : Bool} {k : Nat} {t : List Nat} : flagR cf tm mc (k :: t) r q = flagR cf tm mc t (actA cf tm k (hasN (k :: t) 10) r) (if k = 5 then mc else if k = 6 then true else if (k = 7 ∨ k = 10) ∧ 0 < r then true else q) := rfl

set_option maxHeartbeats 64000000 in
theorem stepR_yes (s e r cf tm : Int) (h1 : 1 ≤ cf ∧ cf ≤ 255) (h2 : 1 ≤ tm ∧ tm ≤ 255) (h3 : 0 ≤ r ∧ r ≤ 255) {n : Nat} {l : List Nat} (h : stepOut s e r = some (n, l)) (mc m m' : Bool) :
    ∃ q, Runs Tryd.prog env 48 [.pure mc (confV cf tm 1), .pure m (autV s r), .pure m' (.int .i64 e)] [] (.tuple [.pure q (autV n (restA cf tm l r)), .row 0 l.length, .pure true (.bool true)]) [(0, .row true (zOf l) 0 (intsOf l))] := by
  have c := fun m m' => rlook_any s e m m'
  have hok := fun n l => cell_ok (s := s) (e := e) (n := n) (l := l)
  unfold stepOut at h
  unfold confV autV
  generalize cellI s e = C at *
  cases C with
  | none => cases h
  | some p =>
    obtain ⟨n', l'⟩ := p
    unfold rlookR rlookS at c
    simp only at h
    split at h
    · cases h
    · rename_i h4
      cases h
      obtain ⟨o1, o2, _⟩ := hok _ _ rfl
      have h5 : ¬ (e = 5 ∧ r = 0) := fun h => h4 (.inl h)
      have h6 : ¬ (e = 6 ∧ 0 < r) := fun h => h4 (.inr h)
      clear h4 hok
      have hil := intsOf_length l
      have h8 : e = 5 ∨ e = 6 ∨ (¬ e = 5 ∧ ¬ e = 6) := by omega
      obtain ⟨T, hT⟩ : ∃ T, restA cf tm l r = T := ⟨_, rfl⟩
      obtain ⟨U, hU⟩ : ∃ U, flagR cf tm mc l r m = U := ⟨_, rfl⟩
      refine ⟨m && U, ?_⟩
      rw [hT]
      rcases h8 with rfl | rfl | ⟨h7, h8⟩
      all_goals
        refine Runs.of Tryd.func48 rfl (by simp [Tryd.ntmps48]) ?_
        simp (maxSteps := 400000) -dsimp -implicitDefEqProofs (disch := first | exact TrueB.mk rfl | omega) only [go_sem, Tryd.ntmps48]
        first | refine wpAct_callG (c _ _) rfl rfl rfl rfl rfl rfl rfl rfl rfl ?_ | done
        simp (maxSteps := 400000) -dsimp -implicitDefEqProofs (disch := first | exact TrueB.mk rfl | omega) only [go_sem, hil]
        refine wpLoop_ind (α := Nat × Int × Bool)
          (fun a => ⟨[(3, .ptr 1696 0), (6, .ptr 1697 0), (10, .row 1698 l.length), (12, .ptr 1699 0), (13, .pure true (.int .i64 (a.1 : Nat)))], [(1696, .box [.pure mc (.int .i64 cf), .pure mc (.int .i64 tm), .pure mc (.int .i64 1), .pure mc (.int .i64 0), .pure mc (.str []), .pure mc (.str []), .pure mc (.int .i64 0), .pure mc (.int .u32 0), .pure mc (.bool false)]), (1697, .box [.pure true (.int .i64 0), .pure true (.int .i64 0)]), (1698, .row true (zOf l) 0 (intsOf l)), (1699, .box [.pure m (.int .i64 n), .pure a.2.2 (.int .i64 a.2.1)])]⟩)
          (fun a => a.1 ≤ l.length ∧ (0 ≤ a.2.1 ∧ a.2.1 ≤ 255) ∧ restA cf tm (l.drop a.1) a.2.1 = T ∧ flagR cf tm mc (l.drop a.1) a.2.1 a.2.2 = U) (fun a => l.length - a.1) ?_ (0, r, m) ⟨by simp, h3, hT, hU⟩ rfl
        rintro ⟨i, x, q⟩ ⟨i1, i2, i3, i4⟩
        simp only at i1 i2 i3 i4
        rcases Classical.em (i < l.length) with hlt | hge
        · have g1 := ints_at hlt
          have wx : IntKind.i64.wrap (x - 1) = x - 1 := by rw [wrap_i64 (by omega) (by omega)]
          have hz : zOf l = 1 := by
            unfold zOf
            cases l with
            | nil => simp at hlt
            | cons _ _ => rfl
          have hin := fun ten => actA_in (k := l[i]) (ten := ten) h1 h2 i2
          have tk := tenOk_drop (i := i) o1
          rw [drop_at hlt] at i3 i4 tk
          unfold tenOk at tk
          rw [flagR_cons] at i4
          rw [restA_cons] at i3
          have hk : l[i] = 5 → hasN (5 :: l.drop (i + 1)) 10 = (l[i + 1]? == some 10) := by
            intro e
            simp [e] at tk
            rw [has_cons]
            simpa using tk.1
          clear tk
          generalize l[i] = k at *
          rcases Classical.em (k = 5) with rfl | k5
          · have g2 : (intsOf l)[i]? = some (.int .i64 5) := g1
            have hk := hk rfl
            have ht1 : ((i : Nat) + 1 : Int).toNat = i + 1 := by omega
            rcases Classical.em (i + 1 < l.length) with h9 | h9
            · have g3 := ints_at h9
              rw [List.getElem?_eq_getElem h9] at hk
              rw [hk] at i3 i4
              generalize l[i + 1] = k1 at *
              rcases Classical.em (k1 = 10) with rfl | k1n
              · have g4 : (intsOf l)[i + 1]? = some (.int .i64 10) := g3
                simp (maxSteps := 400000) -dsimp -implicitDefEqProofs (disch := first | exact TrueB.mk rfl | omega) only [go_sem, g2, g4, hz, ht1]
                rw [show (some 10 == some 10) = true from rfl] at i3 i4
                exact again_mk ⟨(i + 1, tm, mc), ⟨by omega, hin true, i3, i4⟩, by omega, by rw [hz]; rfl⟩
              · have g4 : ¬ ((k1 : Nat) : Int) = 10 := by omega
                have : (some k1 == some 10) = false := by simpa using k1n
                rw [this] at i3 i4
                simp (maxSteps := 400000) -dsimp -implicitDefEqProofs (disch := first | exact TrueB.mk rfl | omega) only [go_sem, g2, g3, g4, hz, ht1]
                exact again_mk ⟨(i + 1, cf, mc), ⟨by omega, hin false, i3, i4⟩, by omega, by rw [hz]; rfl⟩
            · rw [List.getElem?_eq_none (by omega)] at hk
              rw [hk, show ((none : Option Nat) == some 10) = false from rfl] at i3 i4
              simp (maxSteps := 400000) -dsimp -implicitDefEqProofs (disch := first | exact TrueB.mk rfl | omega) only [go_sem, g2, hz]
              exact again_mk ⟨(i + 1, cf, mc), ⟨by omega, hin false, i3, i4⟩, by omega, by rw [hz]; rfl⟩
          · rcases Classical.em (k = 6) with rfl | k6
            · have g2 : (intsOf l)[i]? = some (.int .i64 6) := g1
              simp (maxSteps := 400000) -dsimp -implicitDefEqProofs (disch := first | exact TrueB.mk rfl | omega) only [go_sem, g2, hz]
              exact again_mk ⟨(i + 1, 0, true), ⟨by omega, by simp, i3, i4⟩, by omega, by rw [hz]; rfl⟩
            · rcases Classical.em (k = 7 ∨ k = 10) with hk7 | k7
              · rcases Classical.em (0 < x) with hx | hx
                · have a1 : ∀ ten, actA cf tm k ten x = x - 1 := fun ten => by
                    unfold actA
                    rw [if_neg k5, if_neg k6, if_pos hk7, if_pos hx]
                  rw [a1] at i3 i4
                  rw [if_neg k5, if_neg k6, if_pos ⟨hk7, hx⟩] at i4
                  rcases hk7 with rfl | rfl
                  · have g2 : (intsOf l)[i]? = some (.int .i64 7) := g1
                    simp (maxSteps := 400000) -dsimp -implicitDefEqProofs (disch := first | exact TrueB.mk rfl | omega) only [go_sem, g2, hz, wx]
                    exact again_mk ⟨(i + 1, x - 1, true), ⟨by omega, by simp only; omega, i3, i4⟩, by omega, by rw [hz]; rfl⟩
                  · have g2 : (intsOf l)[i]? = some (.int .i64 10) := g1
                    simp (maxSteps := 400000) -dsimp -implicitDefEqProofs (disch := first | exact TrueB.mk rfl | omega) only [go_sem, g2, hz, wx]
                    exact again_mk ⟨(i + 1, x - 1, true), ⟨by omega, by simp only; omega, i3, i4⟩, by omega, by rw [hz]; rfl⟩
                · have a1 : ∀ ten, actA cf tm k ten x = x := fun ten => by
                    unfold actA
                    rw [if_neg k5, if_neg k6, if_pos hk7, if_neg hx]
                    omega
                  rw [a1] at i3 i4
                  rw [if_neg k5, if_neg k6, if_neg (fun h => hx h.2)] at i4
                  rcases hk7 with rfl | rfl
                  · have g2 : (intsOf l)[i]? = some (.int .i64 7) := g1
                    simp (maxSteps := 400000) -dsimp -implicitDefEqProofs (disch := first | exact TrueB.mk rfl | omega) only [go_sem, g2, hz, wx]
                    exact again_mk ⟨(i + 1, x, q), ⟨by omega, i2, i3, i4⟩, by omega, by rw [hz]; rfl⟩
                  · have g2 : (intsOf l)[i]? = some (.int .i64 10) := g1
                    simp (maxSteps := 400000) -dsimp -implicitDefEqProofs (disch := first | exact TrueB.mk rfl | omega) only [go_sem, g2, hz, wx]
                    exact again_mk ⟨(i + 1, x, q), ⟨by omega, i2, i3, i4⟩, by omega, by rw [hz]; rfl⟩
              · have a1 : ∀ ten, actA cf tm k ten x = x := fun ten => by
                  unfold actA
                  rw [if_neg k5, if_neg k6, if_neg k7]
                rw [a1] at i3 i4
                rw [if_neg k5, if_neg k6, if_neg (fun h => k7 h.1)] at i4
                simp (maxSteps := 400000) -dsimp -implicitDefEqProofs (disch := first | exact TrueB.mk rfl | omega) only [go_sem, g1, hz]
                exact again_mk ⟨(i + 1, x, q), ⟨by omega, i2, i3, i4⟩, by omega, by rw [hz]; rfl⟩
        · have hd : l.drop i = [] := List.drop_eq_nil_of_le (by omega)
          rw [hd] at i3 i4
          have i5 : x = T := i3
          have i6 : q = U := i4
          subst i5 i6
          simp (maxSteps := 400000) -dsimp -implicitDefEqProofs (disch := first | exact TrueB.mk rfl | omega) only [go_sem]
          cases m <;> cases q <;>
            (refine Eq.trans (end_crv (x := .agg [.int .i64 n, .int .i64 x]) (y := .bool true) rfl rfl rfl rfl rfl rfl rfl hil.symm rfl rfl rfl rfl) ?_
             rw [ints_scalar]
             rfl)
end Go.Proofs.YticdhmcbooabaaaDoor
