/- YticdhmcbooabaaaDoorDZ: parts of the proof of CellsKeeps. No claim. -/
import Derived.Test.YticdhmcbooabaaaDoorDN
import Derived.Test.YticdhmcbooabaaaDoorD8
import Derived.Test.YticdhmcbooabaaaDoorD9
import Derived.Test.YticdhmcbooabaaaDoorDA
import Derived.Test.YticdhmcbooabaaaDoorDY
import Derived.Test.YticdhmcbooabaaaDoorWB
import Derived.Test.YticdhmcbooabaaaDoorE
import Derived.MakeChecks
import Derived.LaidLaws
set_option linter.unusedVariables false
set_option linter.unusedSimpArgs false
set_option maxRecDepth 1000000
namespace Go.Proofs.YticdhmcbooabaaaDoor
open Go Go.Proofs.YticdhmcbooabaaaDoor.V

theorem DoY {cf tm : Int} (h1 : 1 ≤ cf ∧ cf ≤ 255) (h2 : 1 ≤ tm ∧ tm ≤ 255) {b b' : Bn} (hb : okB b) {p e : Int} {l : List C3} {t : Bool × Bool × Bool} (h : stepL cf tm b p e = some (b', l, t)) (mc mb mx : Bool) :
    ∃ q, Runs Tryd.prog env 29 [.pure mc (confV cf tm 1), .pure mb (benchV b), .pure mx (sV (p, e))] [] (.tuple [.pure q (benchV b'), .row 0 l.length, .pure true (.bool true)]) [(0, .row true 3 0 (cellsV l))] := by
  have fin : ∀ {R : SV → Store → Prop}, (∃ res S1, Runs Tryd.prog env 29 [.pure mc (confV cf tm 1), .pure mb (benchV b), .pure mx (sV (p, e))] [] res S1 ∧ (S1 = [(0, .row true 3 0 (cellsV l))] ∧ ∃ q, res = .tuple [.pure q (benchV b'), .row 0 l.length, .pure true (.bool true)])) → ∃ q, Runs Tryd.prog env 29 [.pure mc (confV cf tm 1), .pure mb (benchV b), .pure mx (sV (p, e))] [] (.tuple [.pure q (benchV b'), .row 0 l.length, .pure true (.bool true)]) [(0, .row true 3 0 (cellsV l))] := by
    rintro _ ⟨res, S1, k1, rfl, q, rfl⟩
    exact ⟨q, k1⟩
  refine fin (R := fun _ _ => True) ?_
  clear fin
  obtain ⟨⟨a, r, s⟩, y, z⟩ := b
  by_cases p0 : p = 49185
  · subst p0
    by_cases e9 : e = 9
    · subst e9
      cases s with
      | true => exact DoY_0_9 h1 h2 hb h mc mb mx
      | false => simp [stepL, mayP] at h
    · by_cases e10 : e = 10
      · subst e10
        cases s with
        | true => exact DoY_0_10 h1 h2 hb h mc mb mx
        | false => simp [stepL, mayP] at h
      · exact DoY_0_o h1 h2 hb e9 e10 h mc mb mx
  · by_cases p1 : p = 32801
    · subst p1; exact DoY_1 h1 h2 hb h mc mb mx
    · by_cases p2 : p = 32855
      · subst p2; exact DoY_2 h1 h2 hb h mc mb mx
      · unfold stepL at h
        rw [if_neg p0, if_neg p1, if_neg p2] at h
        cases h
/-- Its mark, told as a function. -/
theorem DoS {cf tm : Int} (h1 : 1 ≤ cf ∧ cf ≤ 255) (h2 : 1 ≤ tm ∧ tm ≤ 255) : ∃ qf : Bn → S2 → Bool → Bool → Bool → Bool, ∀ (b b' : Bn) (x : S2) (l : List C3) (t : Bool × Bool × Bool), okB b → stepL cf tm b x.1 x.2 = some (b', l, t) → ∀ mc mb mx,
    Runs Tryd.prog env 29 [.pure mc (confV cf tm 1), .pure mb (benchV b), .pure mx (sV x)] [] (.tuple [.pure (qf b x mc mb mx) (benchV b'), .row 0 l.length, .pure true (.bool true)]) [(0, .row true 3 0 (cellsV l))] := by
  have k : ∀ (b : Bn) (x : S2) (mc mb mx : Bool), ∃ q : Bool, ∀ (b' : Bn) (l : List C3) (t : Bool × Bool × Bool), okB b → stepL cf tm b x.1 x.2 = some (b', l, t) → Runs Tryd.prog env 29 [.pure mc (confV cf tm 1), .pure mb (benchV b), .pure mx (sV x)] [] (.tuple [.pure q (benchV b'), .row 0 l.length, .pure true (.bool true)]) [(0, .row true 3 0 (cellsV l))] := by
    intro b x mc mb mx
    cases hs : stepL cf tm b x.1 x.2 with
    | none => exact ⟨true, fun b' l t hb h => by cases h⟩
    | some r =>
      obtain ⟨b1, l1, t1⟩ := r
      by_cases hb : okB b
      · obtain ⟨q, hq⟩ := DoY h1 h2 hb hs mc mb mx
        refine ⟨q, fun b' l t _ h => ?_⟩
        simp only [Option.some.injEq, Prod.mk.injEq] at h
        obtain ⟨rfl, rfl, rfl⟩ := h
        exact hq
      · exact ⟨true, fun b' l t h => absurd h hb⟩
  exact ⟨fun b x mc mb mx => Classical.choose (k b x mc mb mx), fun b b' x l t hb h mc mb mx => Classical.choose_spec (k b x mc mb mx) b' l t hb h⟩

theorem newQ3 (q r : Bool) (b : Bn) (n : Nat) : newV (.tuple [.pure q (benchV b), .row 0 n, .pure true (.bool r)]) = true := by cases q <;> rfl
/-- What the document's Play comes to, but for its mark. -/
def refV (q : Bool) : Option (Bn × W3 × List C3) → SV
  | none => .tuple [.pure true (benchV zeroB), .row 0 0, .pure true (.bool false)]
  | some (b, w, L) => .tuple [.pure q (benchV b), .row 0 L.length, .pure true (.bool true)]

set_option maxHeartbeats 64000000 in
theorem refPlay {cf tm : Int} (h1 : 1 ≤ cf ∧ cf ≤ 255) (h2 : 1 ≤ tm ∧ tm ≤ 255) (l : List S2) (hl : l.length ≤ 100000) (m m' : Bool) :
    ∃ res S1, Runs Tryd.prog env 14 [.pure m (confV cf tm 1), .pure m' (.sl (stepsV l))] [] res S1 ∧ (S1 = playS (playL cf tm l zeroB (true, true, true) []) ∧ ∃ q, res = refV q (playL cf tm l zeroB (true, true, true) [])) := by
  generalize hR : playL cf tm l zeroB (true, true, true) [] = R
  have hsl := stepsV_length l
  have dN := @DoN cf tm
  obtain ⟨qf, dY⟩ := DoS h1 h2
  unfold confV at *
  refine RunsX.of Tryd.func14 rfl (by simp [Tryd.ntmps14]) ?_
  simp (maxSteps := 400000) -dsimp -implicitDefEqProofs (disch := first | exact TrueB.mk rfl | omega) only [go_sem, Tryd.ntmps14, hsl, endX_ret, endX_normal]
  refine wpLoop_ind (α := Nat × Bn × W3 × List C3 × Nat × Bool)
    (fun x => ⟨[(1, .pure m' (.sl (stepsV l))), (2, .ptr 640 0), (4, .ptr 641 0), (7, .ptr 642 0), (8, .row 643 x.2.2.2.1.length), (9, .pure true (.int .i64 (x.1 : Nat)))], [(640, .box [.pure m (.int .i64 cf), .pure m (.int .i64 tm), .pure m (.int .i64 1), .pure m (.int .i64 0), .pure m (.str []), .pure m (.str []), .pure m (.int .i64 0), .pure m (.int .u32 0), .pure m (.bool false)]), (641, boxA true zeroB), (642, boxA x.2.2.2.2.2 x.2.1), (643, .row true (zL x.2.2.2.1) x.2.2.2.2.1 (cellsV x.2.2.2.1))]⟩)
    (fun x => x.1 ≤ l.length ∧ okB x.2.1 ∧ x.2.2.2.1.length ≤ 3 * x.1 ∧ playL cf tm (l.drop x.1) x.2.1 x.2.2.1 x.2.2.2.1 = R) (fun x => l.length - x.1) ?_ (0, zeroB, (true, true, true), [], 0, true) ⟨by omega, ⟨⟨by decide, by decide⟩, ⟨by decide, by decide⟩, ⟨by decide, by decide⟩⟩, by simp, hR⟩ rfl
  clear hR
  rintro ⟨i, b, w, L, lim, q⟩ ⟨hi, hb, hL, hR⟩
  simp only at hi hb hL hR ⊢
  have hc := cellsV_length L
  rcases Classical.em (i < l.length) with hlt | hge
  · have g1 := steps_at hlt
    rw [List.drop_eq_getElem_cons hlt] at hR
    cases hs : stepL cf tm b l[i].1 l[i].2 with
    | none =>
      simp only [playL, hs] at hR
      subst hR
      have cc := fun mc mb mx => dN hb hs mc mb mx
      generalize l[i] = st at *
      have nw := fun q => newQ3 q false b 0
      simp only [playS, refV]
      unfold boxA boxW zeroB benchV sV at *
      simp (maxSteps := 400000) -dsimp -implicitDefEqProofs (disch := first | exact TrueB.mk rfl | omega) only [go_sem, g1, hsl, endX_ret, endX_normal]
      refine wpAct_callG (cc _ _ _) rfl rfl rfl rfl rfl rfl (nw _) rfl rfl ?_
      simp (maxSteps := 400000) -dsimp -implicitDefEqProofs (disch := first | exact TrueB.mk rfl | omega) only [go_sem, endX_ret, endX_normal]
      exact ⟨_, _, end_crvB rfl rfl rfl rfl rfl rfl rfl rfl rfl rfl rfl rfl rfl, rfl, true, rfl⟩
    | some r =>
      obtain ⟨b', ls, t0, t1, t2⟩ := r
      simp only [playL, hs] at hR
      have hk := stepL_ok h1 h2 hb hs
      have cc := fun mc mb mx => dY b b' l[i] ls (t0, t1, t2) hb hs mc mb mx
      have hc2 := cellsV_length ls
      have hz : zL L = 3 ∨ zL L = 0 := by cases L <;> simp [zL]
      obtain ⟨c0, tl, hLt⟩ : ∃ c0 tl, L ++ ls = c0 :: tl := by
        cases L with
        | nil => cases ls with
          | nil => simp at hk
          | cons c t => exact ⟨c, t, rfl⟩
        | cons c t => exact ⟨c, t ++ ls, rfl⟩
      have e1 : cellsV L ++ cellsV ls = cellsV (c0 :: tl) := by rw [← hLt]; simp [cellsV]
      have e2 : L.length + ls.length = tl.length + 1 := by rw [← List.length_append, hLt]; rfl
      rw [hLt] at hR
      generalize zL L = zz at hz ⊢
      generalize l[i] = st at *
      have nw := fun q => newQ3 q true b' ls.length
      have nq : ∀ mc mb mx, ∃ q', qf b st mc mb mx = q' := fun _ _ _ => ⟨_, rfl⟩
      unfold boxA boxW benchV sV at *
      simp (maxSteps := 400000) -dsimp -implicitDefEqProofs (disch := first | exact TrueB.mk rfl | omega) only [go_sem, g1, hsl, endX_ret, endX_normal]
      refine wpAct_callG (cc _ _ _) rfl rfl rfl rfl rfl rfl (nw _) rfl rfl ?_
      simp (maxSteps := 400000) -dsimp -implicitDefEqProofs (disch := first | exact TrueB.mk rfl | omega) only [go_sem, hc, hc2, hz, e1, e2, allScalar_cl, Bool.or_true, Bool.and_true, endX_ret, endX_normal]
      exact again_mk ⟨(i + 1, b', _, c0 :: tl, L.length, _), ⟨Nat.succ_le_of_lt hlt, hk.1, (show (c0 :: tl).length ≤ 3 * (i + 1) by rw [← hLt, List.length_append]; omega), hR⟩, (show l.length - (i + 1) < l.length - i by omega), rfl⟩
  · obtain rfl : i = l.length := by omega
    rw [List.drop_length] at hR
    simp only [playL] at hR
    subst hR
    simp only [playS, refV]
    unfold boxA boxW benchV zeroB
    simp (maxSteps := 400000) -dsimp -implicitDefEqProofs (disch := first | exact TrueB.mk rfl | omega) only [go_sem, hsl, endX_ret, endX_normal]
    exact ⟨_, _, end_crvB rfl rfl rfl rfl rfl rfl rfl hc.symm (allScalar_cl L) rfl rfl rfl rfl, rfl, q, by cases q <;> rfl⟩

theorem refS {cf tm : Int} (h1 : 1 ≤ cf ∧ cf ≤ 255) (h2 : 1 ≤ tm ∧ tm ≤ 255) (l : List S2) (hl : l.length ≤ 100000) : ∃ qf : Bool → Bool → Bool, ∀ m m', Runs Tryd.prog env 14 [.pure m (confV cf tm 1), .pure m' (.sl (stepsV l))] [] (refV (qf m m') (playL cf tm l zeroB (true, true, true) [])) (playS (playL cf tm l zeroB (true, true, true) [])) := by
  have k : ∀ m m', ∃ q, Runs Tryd.prog env 14 [.pure m (confV cf tm 1), .pure m' (.sl (stepsV l))] [] (refV q (playL cf tm l zeroB (true, true, true) [])) (playS (playL cf tm l zeroB (true, true, true) [])) := by
    intro m m'
    obtain ⟨res, S1, k1, rfl, q, rfl⟩ := refPlay h1 h2 l hl m m'
    exact ⟨q, k1⟩
  exact ⟨fun m m' => Classical.choose (k m m'), fun m m' => Classical.choose_spec (k m m')⟩
def zT : List S2 → Nat
  | [] => 0
  | _ :: _ => 2
theorem allScalar_st (l : List S2) : allScalar (stepsV l) = true := by
  induction l with
  | nil => rfl
  | cons c t ih => exact ih
theorem end_rowS {P : Program} {sl : Slots} {S : Store} {t k n z lim : Nat} {xs : List PV} (hg : get sl t = some (.row k n)) (hk : get S k = some (.row true z lim xs)) (hn : n = xs.length) (hs : allScalar xs = true) : outV P 0 [.tmp t] sl S = some (.row 0 n, [(0, .row true z 0 xs)]) := by
  have := end_rowT (P := P) hg hk hn
  rwa [hs] at this
def canRow (cf tm : Int) (b : Bn) (p : Int) : Nat → List S2 → List S2
  | 0, L => L
  | k + 1, L => canRow cf tm b p k (if canB cf tm b (p, 16 - (k : Int)) then L ++ [(p, 16 - (k : Int))] else L)
def evs (p : Int) : List S2 := (List.range 16).map fun (e : Nat) => (p, (e : Int) + 1)
theorem canRow_succ (cf tm : Int) (b : Bn) (p : Int) (k : Nat) (L : List S2) : canRow cf tm b p (k + 1) L = canRow cf tm b p k (if canB cf tm b (p, 16 - (k : Int)) then L ++ [(p, 16 - (k : Int))] else L) := rfl
theorem evs_length (p : Int) : (evs p).length = 16 := by simp [evs]
theorem canRow_eq (cf tm : Int) (b : Bn) (p : Int) : ∀ (k : Nat) (L : List S2), k ≤ 16 → canRow cf tm b p k L = L ++ ((evs p).drop (16 - k)).filter (canB cf tm b) := by
  intro k
  induction k with
  | zero =>
    intro L _
    rw [List.drop_of_length_le (by rw [evs_length]; omega)]
    simp [canRow]
  | succ k ih =>
    intro L hk
    have hlt : 16 - (k + 1) < (evs p).length := by rw [evs_length]; omega
    have hx : (evs p)[16 - (k + 1)] = (p, 16 - (k : Int)) := by
      simp only [evs, List.getElem_map, List.getElem_range, Prod.mk.injEq, true_and]
      omega
    rw [List.drop_eq_getElem_cons hlt, hx, show 16 - (k + 1) + 1 = 16 - k by omega]
    simp only [canRow]
    rw [ih _ (by omega)]
    by_cases hc : canB cf tm b (p, 16 - (k : Int)) = true
    · rw [if_pos hc, List.filter_cons_of_pos hc, List.append_assoc]
      rfl
    · rw [if_neg hc, List.filter_cons_of_neg hc]
theorem canL_rows (cf tm : Int) (b : Bn) : canRow cf tm b 32855 16 (canRow cf tm b 32801 16 (canRow cf tm b 49185 16 [])) = canL cf tm b := by
  rw [canRow_eq _ _ _ _ _ _ (by omega), canRow_eq _ _ _ _ _ _ (by omega), canRow_eq _ _ _ _ _ _ (by omega)]
  unfold canL
  have : all48 = evs 49185 ++ evs 32801 ++ evs 32855 := rfl
  rw [this, List.filter_append, List.filter_append]
  rfl
theorem canRow_len (cf tm : Int) (b : Bn) (p : Int) : ∀ (k : Nat) (L : List S2), L.length ≤ (canRow cf tm b p k L).length := by
  intro k
  induction k with
  | zero => exact fun L => Nat.le_refl _
  | succ k ih =>
    intro L
    refine Nat.le_trans ?_ (ih _)
    split
    · rw [List.length_append]; omega
    · exact Nat.le_refl _
def canR (cf tm : Int) : Option (Bn × W3 × List C3) → List S2
  | none => []
  | some (b, _) => canL cf tm b

set_option maxHeartbeats 64000000 in
theorem refCan {cf tm : Int} (h1 : 1 ≤ cf ∧ cf ≤ 255) (h2 : 1 ≤ tm ∧ tm ≤ 255) (l : List S2) (hl : l.length ≤ 100000) (m m' : Bool) :
    Runs Tryd.prog env 18 [.pure m (confV cf tm 1), .pure m' (.sl (stepsV l))] [] (.row 0 (canR cf tm (playL cf tm l zeroB (true, true, true) [])).length) [(0, .row true (zT (canR cf tm (playL cf tm l zeroB (true, true, true) []))) 0 (stepsV (canR cf tm (playL cf tm l zeroB (true, true, true) []))))] := by
  obtain ⟨qf, pp⟩ := refS h1 h2 l hl
  have po := fun b' w' L' => playL_ok h1 h2 l zeroB (true, true, true) [] (b' := b') (w' := w') (L' := L') okZ
  have dN := @DoN cf tm
  obtain ⟨qd, dY⟩ := DoS h1 h2
  generalize playL cf tm l zeroB (true, true, true) [] = R at *
  cases R with
  | none =>
    simp only [refV, playS, canR] at *
    unfold confV benchV at *
    refine Runs.of Tryd.func18 rfl (by simp [Tryd.ntmps18]) ?_
    simp (maxSteps := 400000) -dsimp -implicitDefEqProofs (disch := first | exact TrueB.mk rfl | omega) only [go_sem, Tryd.ntmps18]
    first | refine wpAct_callG (pp _ _) rfl rfl rfl rfl rfl rfl rfl rfl rfl ?_ | done
    simp (maxSteps := 400000) -dsimp -implicitDefEqProofs (disch := first | exact TrueB.mk rfl | omega) only [go_sem]
    refine wpLoop_ind (α := Unit) (fun _ => ⟨[(2, .ptr 816 0), (5, .row 817 0), (6, .ptr 818 0), (8, .pure true (.bool false)), (9, .pure true (.int .i64 0))], [(816, .box [.pure m (.int .i64 cf), .pure m (.int .i64 tm), .pure m (.int .i64 1), .pure m (.int .i64 0), .pure m (.str []), .pure m (.str []), .pure m (.int .i64 0), .pure m (.int .u32 0), .pure m (.bool false)]), (817, .row true 0 0 []), (818, boxA true zeroB)]⟩) (fun _ => True) (fun _ => 0) ?_ () trivial rfl
    rintro _ _
    simp (maxSteps := 400000) -dsimp -implicitDefEqProofs (disch := first | exact TrueB.mk rfl | omega) only [go_sem]
    exact end_rowS (xs := []) rfl rfl rfl rfl
  | some r =>
    obtain ⟨b, w, A⟩ := r
    have hb := (po b w A rfl).1
    simp only [refV, playS, canR] at *
    obtain ⟨G, hG⟩ : ∃ G, canL cf tm b = G := ⟨_, rfl⟩
    have hG2 := canL_rows cf tm b
    rw [hG] at hG2 ⊢
    have hGl : G.length ≤ 48 := by rw [← hG]; exact Nat.le_trans (List.length_filter_le _ _) (by rw [all48_length]; omega)
    have nw := fun q => newQ3 q true b A.length
    unfold confV at *
    unfold benchV at pp nw
    refine Runs.of Tryd.func18 rfl (by simp [Tryd.ntmps18]) ?_
    simp (maxSteps := 400000) -dsimp -implicitDefEqProofs (disch := first | exact TrueB.mk rfl | omega) only [go_sem, Tryd.ntmps18]
    refine wpAct_callG (pp _ _) rfl rfl rfl rfl rfl rfl (nw _) rfl rfl ?_
    simp (maxSteps := 400000) -dsimp -implicitDefEqProofs (disch := first | exact TrueB.mk rfl | omega) only [go_sem]
    clear nw pp
    have hq : ∀ q : Bool, (∃ q', q' = q) := fun q => ⟨q, rfl⟩
    refine wpLoop_ind (α := Nat × List S2 × Nat × Bool)
      (fun x => let q := x.2.2.2; ⟨[(2, .ptr 816 0), (5, .row 817 x.2.1.length), (6, .ptr 818 0), (8, .pure true (.bool true)), (9, .pure true (.int .i64 (x.1 : Int)))], [(816, .box [.pure m (.int .i64 cf), .pure m (.int .i64 tm), .pure m (.int .i64 1), .pure m (.int .i64 0), .pure m (.str []), .pure m (.str []), .pure m (.int .i64 0), .pure m (.int .u32 0), .pure m (.bool false)]), (817, .row true (zT x.2.1) x.2.2.1 (stepsV x.2.1)), (818, boxA q b)]⟩)
      (fun x => x.1 ≤ 3 ∧ match x.1 with
        | 0 => canRow cf tm b 32855 16 (canRow cf tm b 32801 16 (canRow cf tm b 49185 16 (x.2.1))) = G
        | 1 => canRow cf tm b 32855 16 (canRow cf tm b 32801 16 (x.2.1)) = G
        | 2 => canRow cf tm b 32855 16 (x.2.1) = G
        | _ => x.2.1 = G) (fun x => 3 - x.1) ?_ (0, [], 0, _) ⟨by omega, hG2⟩ rfl
    rintro ⟨i, L, lim, q⟩ ⟨hi, hI⟩
    have hi4 : i = 0 ∨ i = 1 ∨ i = 2 ∨ i = 3 := by simp only at hi; omega
    rcases hi4 with rfl | rfl | rfl | rfl
    · simp only at hI ⊢
      simp (maxSteps := 400000) -dsimp -implicitDefEqProofs (disch := first | exact TrueB.mk rfl | omega) only [go_sem]
      refine wpLoop_ind (α := Nat × List S2 × Nat)
        (fun x => ⟨[(2, .ptr 816 0), (5, .row 817 x.2.1.length), (6, .ptr 818 0), (8, .pure true (.bool true)), (9, .pure true (.int .i64 0)), (10, .pure true (.int .i64 (17 - (x.1 : Int))))], [(816, .box [.pure m (.int .i64 cf), .pure m (.int .i64 tm), .pure m (.int .i64 1), .pure m (.int .i64 0), .pure m (.str []), .pure m (.str []), .pure m (.int .i64 0), .pure m (.int .u32 0), .pure m (.bool false)]), (817, .row true (zT x.2.1) x.2.2 (stepsV x.2.1)), (818, boxA q b)]⟩)
        (fun x => x.1 ≤ 16 ∧ canRow cf tm b 32855 16 (canRow cf tm b 32801 16 (canRow cf tm b 49185 x.1 x.2.1)) = G) (fun x => x.1) ?_ (16, L, lim) ⟨Nat.le_refl _, hI⟩ rfl
      clear hI
      rintro ⟨k, L, lim⟩ ⟨hk, hI⟩
      simp only at hk hI ⊢
      have hll := stepsV_length L
      cases k with
      | zero =>
        have e0 : (17 : Int) - ((0 : Nat) : Int) = 17 := rfl
        have hI0 : canRow cf tm b 32855 16 (canRow cf tm b 32801 16 (L)) = G := hI
        simp (maxSteps := 400000) -dsimp -implicitDefEqProofs (disch := first | exact TrueB.mk rfl | omega) only [go_sem, e0]
        exact again_mk ⟨(1, L, lim, q), ⟨by omega, hI0⟩, (show 3 - (0 + 1) < 3 - 0 by decide), rfl⟩
      | succ k =>
      have e0 : (17 : Int) - ((k + 1 : Nat) : Int) = 16 - (k : Int) := by omega
      rw [e0]
      obtain ⟨e, he⟩ : ∃ e : Int, e = 16 - (k : Int) := ⟨_, rfl⟩
      rw [← he]
      have b1 : 1 ≤ e := by omega
      have b2 : e ≤ 16 := by omega
      have hj' : (17 : Int) - (k : Int) = e + 1 := by omega
      rw [canRow_succ cf tm b 49185 k] at hI
      rw [← he] at hI
      cases hs : stepL cf tm b 49185 e with
      | none =>
        have hcb : canB cf tm b (49185, e) = false := by unfold canB; rw [hs]; rfl
        rw [hcb] at hI
        simp only [Bool.false_eq_true, if_false] at hI
        have cc := fun mc mb mx => dN hb hs mc mb mx
        have nw := fun q => newQ3 q false b 0
        simp only [sV] at cc
        unfold boxA boxW benchV at *
        simp (maxSteps := 400000) -dsimp -implicitDefEqProofs (disch := first | exact TrueB.mk rfl | omega) only [go_sem]
        first | refine wpAct_call0 (proto_0 _) rfl rfl rfl rfl rfl rfl rfl rfl ?_ | done
        simp (maxSteps := 400000) -dsimp -implicitDefEqProofs (disch := first | exact TrueB.mk rfl | omega) only [go_sem]
        refine wpAct_callG (cc _ _ _) rfl rfl rfl rfl rfl rfl (nw _) rfl rfl ?_
        simp (maxSteps := 400000) -dsimp -implicitDefEqProofs (disch := first | exact TrueB.mk rfl | omega) only [go_sem]
        refine again_mk ⟨(k, L, lim), ⟨by omega, hI⟩, Nat.lt_succ_self k, ?_⟩
        simp only [hj']
        rfl
      | some r =>
        obtain ⟨b', ls, t⟩ := r
        have hcb : canB cf tm b (49185, e) = true := by unfold canB; rw [hs]; rfl
        rw [hcb, if_pos rfl] at hI
        have cc := fun mc mb mx => dY b b' (49185, e) ls t hb hs mc mb mx
        have nw := fun q => newQ3 q true b' ls.length
        have hz : zT L = 2 ∨ zT L = 0 := by cases L <;> simp [zT]
        have hlen : (L ++ [((49185, e) : S2)]).length ≤ G.length := by
          rw [← hI]
          exact Nat.le_trans (canRow_len _ _ _ _ _ _) (Nat.le_trans (canRow_len _ _ _ _ _ _) (canRow_len _ _ _ _ _ _))
        rw [List.length_append, List.length_cons, List.length_nil] at hlen
        obtain ⟨c0, tl, hLt⟩ : ∃ c0 tl, L ++ [((49185, e) : S2)] = c0 :: tl := by
          cases L with
          | nil => exact ⟨_, _, rfl⟩
          | cons c t => exact ⟨c, t ++ [(49185, e)], rfl⟩
        have e1 : stepsV L ++ [PV.agg [.int .i64 49185, .int .i64 e]] = stepsV (c0 :: tl) := by rw [← hLt]; simp [stepsV, sV]
        have e2 : L.length + 1 = tl.length + 1 := by
          have : (L ++ [((49185, e) : S2)]).length = (c0 :: tl).length := by rw [hLt]
          simpa using this
        rw [hLt] at hI
        have sc2 : ∀ a b : Int, PV.scalar.go [.int .i64 a, .int .i64 b] = true := fun _ _ => rfl
        simp only [sV] at cc
        generalize zT L = zz at hz ⊢
        unfold boxA boxW benchV at *
        simp (maxSteps := 400000) -dsimp -implicitDefEqProofs (disch := first | exact TrueB.mk rfl | omega) only [go_sem]
        first | refine wpAct_call0 (proto_0 _) rfl rfl rfl rfl rfl rfl rfl rfl ?_ | done
        simp (maxSteps := 400000) -dsimp -implicitDefEqProofs (disch := first | exact TrueB.mk rfl | omega) only [go_sem]
        refine wpAct_callG (cc _ _ _) rfl rfl rfl rfl rfl rfl (nw _) rfl rfl ?_
        simp (maxSteps := 400000) -dsimp -implicitDefEqProofs (disch := first | exact TrueB.mk rfl | omega) only [go_sem, hll, hz, e1, e2, sc2, Bool.or_true]
        refine again_mk ⟨(k, c0 :: tl, L.length), ⟨by omega, hI⟩, Nat.lt_succ_self k, ?_⟩
        simp only [hj']
        rfl
    · simp only at hI ⊢
      simp (maxSteps := 400000) -dsimp -implicitDefEqProofs (disch := first | exact TrueB.mk rfl | omega) only [go_sem]
      refine wpLoop_ind (α := Nat × List S2 × Nat)
        (fun x => ⟨[(2, .ptr 816 0), (5, .row 817 x.2.1.length), (6, .ptr 818 0), (8, .pure true (.bool true)), (9, .pure true (.int .i64 1)), (10, .pure true (.int .i64 (17 - (x.1 : Int))))], [(816, .box [.pure m (.int .i64 cf), .pure m (.int .i64 tm), .pure m (.int .i64 1), .pure m (.int .i64 0), .pure m (.str []), .pure m (.str []), .pure m (.int .i64 0), .pure m (.int .u32 0), .pure m (.bool false)]), (817, .row true (zT x.2.1) x.2.2 (stepsV x.2.1)), (818, boxA q b)]⟩)
        (fun x => x.1 ≤ 16 ∧ canRow cf tm b 32855 16 (canRow cf tm b 32801 x.1 x.2.1) = G) (fun x => x.1) ?_ (16, L, lim) ⟨Nat.le_refl _, hI⟩ rfl
      clear hI
      rintro ⟨k, L, lim⟩ ⟨hk, hI⟩
      simp only at hk hI ⊢
      have hll := stepsV_length L
      cases k with
      | zero =>
        have e0 : (17 : Int) - ((0 : Nat) : Int) = 17 := rfl
        have hI0 : canRow cf tm b 32855 16 (L) = G := hI
        simp (maxSteps := 400000) -dsimp -implicitDefEqProofs (disch := first | exact TrueB.mk rfl | omega) only [go_sem, e0]
        exact again_mk ⟨(2, L, lim, q), ⟨by omega, hI0⟩, (show 3 - (1 + 1) < 3 - 1 by decide), rfl⟩
      | succ k =>
      have e0 : (17 : Int) - ((k + 1 : Nat) : Int) = 16 - (k : Int) := by omega
      rw [e0]
      obtain ⟨e, he⟩ : ∃ e : Int, e = 16 - (k : Int) := ⟨_, rfl⟩
      rw [← he]
      have b1 : 1 ≤ e := by omega
      have b2 : e ≤ 16 := by omega
      have hj' : (17 : Int) - (k : Int) = e + 1 := by omega
      rw [canRow_succ cf tm b 32801 k] at hI
      rw [← he] at hI
      cases hs : stepL cf tm b 32801 e with
      | none =>
        have hcb : canB cf tm b (32801, e) = false := by unfold canB; rw [hs]; rfl
        rw [hcb] at hI
        simp only [Bool.false_eq_true, if_false] at hI
        have cc := fun mc mb mx => dN hb hs mc mb mx
        have nw := fun q => newQ3 q false b 0
        simp only [sV] at cc
        unfold boxA boxW benchV at *
        simp (maxSteps := 400000) -dsimp -implicitDefEqProofs (disch := first | exact TrueB.mk rfl | omega) only [go_sem]
        first | refine wpAct_call0 (proto_1 _) rfl rfl rfl rfl rfl rfl rfl rfl ?_ | done
        simp (maxSteps := 400000) -dsimp -implicitDefEqProofs (disch := first | exact TrueB.mk rfl | omega) only [go_sem]
        refine wpAct_callG (cc _ _ _) rfl rfl rfl rfl rfl rfl (nw _) rfl rfl ?_
        simp (maxSteps := 400000) -dsimp -implicitDefEqProofs (disch := first | exact TrueB.mk rfl | omega) only [go_sem]
        refine again_mk ⟨(k, L, lim), ⟨by omega, hI⟩, Nat.lt_succ_self k, ?_⟩
        simp only [hj']
        rfl
      | some r =>
        obtain ⟨b', ls, t⟩ := r
        have hcb : canB cf tm b (32801, e) = true := by unfold canB; rw [hs]; rfl
        rw [hcb, if_pos rfl] at hI
        have cc := fun mc mb mx => dY b b' (32801, e) ls t hb hs mc mb mx
        have nw := fun q => newQ3 q true b' ls.length
        have hz : zT L = 2 ∨ zT L = 0 := by cases L <;> simp [zT]
        have hlen : (L ++ [((32801, e) : S2)]).length ≤ G.length := by
          rw [← hI]
          exact Nat.le_trans (canRow_len _ _ _ _ _ _) (canRow_len _ _ _ _ _ _)
        rw [List.length_append, List.length_cons, List.length_nil] at hlen
        obtain ⟨c0, tl, hLt⟩ : ∃ c0 tl, L ++ [((32801, e) : S2)] = c0 :: tl := by
          cases L with
          | nil => exact ⟨_, _, rfl⟩
          | cons c t => exact ⟨c, t ++ [(32801, e)], rfl⟩
        have e1 : stepsV L ++ [PV.agg [.int .i64 32801, .int .i64 e]] = stepsV (c0 :: tl) := by rw [← hLt]; simp [stepsV, sV]
        have e2 : L.length + 1 = tl.length + 1 := by
          have : (L ++ [((32801, e) : S2)]).length = (c0 :: tl).length := by rw [hLt]
          simpa using this
        rw [hLt] at hI
        have sc2 : ∀ a b : Int, PV.scalar.go [.int .i64 a, .int .i64 b] = true := fun _ _ => rfl
        simp only [sV] at cc
        generalize zT L = zz at hz ⊢
        unfold boxA boxW benchV at *
        simp (maxSteps := 400000) -dsimp -implicitDefEqProofs (disch := first | exact TrueB.mk rfl | omega) only [go_sem]
        first | refine wpAct_call0 (proto_1 _) rfl rfl rfl rfl rfl rfl rfl rfl ?_ | done
        simp (maxSteps := 400000) -dsimp -implicitDefEqProofs (disch := first | exact TrueB.mk rfl | omega) only [go_sem]
        refine wpAct_callG (cc _ _ _) rfl rfl rfl rfl rfl rfl (nw _) rfl rfl ?_
        simp (maxSteps := 400000) -dsimp -implicitDefEqProofs (disch := first | exact TrueB.mk rfl | omega) only [go_sem, hll, hz, e1, e2, sc2, Bool.or_true]
        refine again_mk ⟨(k, c0 :: tl, L.length), ⟨by omega, hI⟩, Nat.lt_succ_self k, ?_⟩
        simp only [hj']
        rfl
    · simp only at hI ⊢
      simp (maxSteps := 400000) -dsimp -implicitDefEqProofs (disch := first | exact TrueB.mk rfl | omega) only [go_sem]
      refine wpLoop_ind (α := Nat × List S2 × Nat)
        (fun x => ⟨[(2, .ptr 816 0), (5, .row 817 x.2.1.length), (6, .ptr 818 0), (8, .pure true (.bool true)), (9, .pure true (.int .i64 2)), (10, .pure true (.int .i64 (17 - (x.1 : Int))))], [(816, .box [.pure m (.int .i64 cf), .pure m (.int .i64 tm), .pure m (.int .i64 1), .pure m (.int .i64 0), .pure m (.str []), .pure m (.str []), .pure m (.int .i64 0), .pure m (.int .u32 0), .pure m (.bool false)]), (817, .row true (zT x.2.1) x.2.2 (stepsV x.2.1)), (818, boxA q b)]⟩)
        (fun x => x.1 ≤ 16 ∧ (canRow cf tm b 32855 x.1 x.2.1) = G) (fun x => x.1) ?_ (16, L, lim) ⟨Nat.le_refl _, hI⟩ rfl
      clear hI
      rintro ⟨k, L, lim⟩ ⟨hk, hI⟩
      simp only at hk hI ⊢
      have hll := stepsV_length L
      cases k with
      | zero =>
        have e0 : (17 : Int) - ((0 : Nat) : Int) = 17 := rfl
        have hI0 : (L) = G := hI
        simp (maxSteps := 400000) -dsimp -implicitDefEqProofs (disch := first | exact TrueB.mk rfl | omega) only [go_sem, e0]
        exact again_mk ⟨(3, L, lim, q), ⟨by omega, hI0⟩, (show 3 - (2 + 1) < 3 - 2 by decide), rfl⟩
      | succ k =>
      have e0 : (17 : Int) - ((k + 1 : Nat) : Int) = 16 - (k : Int) := by omega
      rw [e0]
      obtain ⟨e, he⟩ : ∃ e : Int, e = 16 - (k : Int) := ⟨_, rfl⟩
      rw [← he]
      have b1 : 1 ≤ e := by omega
      have b2 : e ≤ 16 := by omega
      have hj' : (17 : Int) - (k : Int) = e + 1 := by omega
      rw [canRow_succ cf tm b 32855 k] at hI
      rw [← he] at hI
      cases hs : stepL cf tm b 32855 e with
      | none =>
        have hcb : canB cf tm b (32855, e) = false := by unfold canB; rw [hs]; rfl
        rw [hcb] at hI
        simp only [Bool.false_eq_true, if_false] at hI
        have cc := fun mc mb mx => dN hb hs mc mb mx
        have nw := fun q => newQ3 q false b 0
        simp only [sV] at cc
        unfold boxA boxW benchV at *
        simp (maxSteps := 400000) -dsimp -implicitDefEqProofs (disch := first | exact TrueB.mk rfl | omega) only [go_sem]
        first | refine wpAct_call0 (proto_2 _) rfl rfl rfl rfl rfl rfl rfl rfl ?_ | done
        simp (maxSteps := 400000) -dsimp -implicitDefEqProofs (disch := first | exact TrueB.mk rfl | omega) only [go_sem]
        refine wpAct_callG (cc _ _ _) rfl rfl rfl rfl rfl rfl (nw _) rfl rfl ?_
        simp (maxSteps := 400000) -dsimp -implicitDefEqProofs (disch := first | exact TrueB.mk rfl | omega) only [go_sem]
        refine again_mk ⟨(k, L, lim), ⟨by omega, hI⟩, Nat.lt_succ_self k, ?_⟩
        simp only [hj']
        rfl
      | some r =>
        obtain ⟨b', ls, t⟩ := r
        have hcb : canB cf tm b (32855, e) = true := by unfold canB; rw [hs]; rfl
        rw [hcb, if_pos rfl] at hI
        have cc := fun mc mb mx => dY b b' (32855, e) ls t hb hs mc mb mx
        have nw := fun q => newQ3 q true b' ls.length
        have hz : zT L = 2 ∨ zT L = 0 := by cases L <;> simp [zT]
        have hlen : (L ++ [((32855, e) : S2)]).length ≤ G.length := by
          rw [← hI]
          exact Nat.le_trans (canRow_len _ _ _ _ _ _) (Nat.le_refl _)
        rw [List.length_append, List.length_cons, List.length_nil] at hlen
        obtain ⟨c0, tl, hLt⟩ : ∃ c0 tl, L ++ [((32855, e) : S2)] = c0 :: tl := by
          cases L with
          | nil => exact ⟨_, _, rfl⟩
          | cons c t => exact ⟨c, t ++ [(32855, e)], rfl⟩
        have e1 : stepsV L ++ [PV.agg [.int .i64 32855, .int .i64 e]] = stepsV (c0 :: tl) := by rw [← hLt]; simp [stepsV, sV]
        have e2 : L.length + 1 = tl.length + 1 := by
          have : (L ++ [((32855, e) : S2)]).length = (c0 :: tl).length := by rw [hLt]
          simpa using this
        rw [hLt] at hI
        have sc2 : ∀ a b : Int, PV.scalar.go [.int .i64 a, .int .i64 b] = true := fun _ _ => rfl
        simp only [sV] at cc
        generalize zT L = zz at hz ⊢
        unfold boxA boxW benchV at *
        simp (maxSteps := 400000) -dsimp -implicitDefEqProofs (disch := first | exact TrueB.mk rfl | omega) only [go_sem]
        first | refine wpAct_call0 (proto_2 _) rfl rfl rfl rfl rfl rfl rfl rfl ?_ | done
        simp (maxSteps := 400000) -dsimp -implicitDefEqProofs (disch := first | exact TrueB.mk rfl | omega) only [go_sem]
        refine wpAct_callG (cc _ _ _) rfl rfl rfl rfl rfl rfl (nw _) rfl rfl ?_
        simp (maxSteps := 400000) -dsimp -implicitDefEqProofs (disch := first | exact TrueB.mk rfl | omega) only [go_sem, hll, hz, e1, e2, sc2, Bool.or_true]
        refine again_mk ⟨(k, c0 :: tl, L.length), ⟨by omega, hI⟩, Nat.lt_succ_self k, ?_⟩
        simp only [hj']
        rfl
    · simp only at hI ⊢
      subst hI
      have hll := stepsV_length L
      simp (maxSteps := 400000) -dsimp -implicitDefEqProofs (disch := first | exact TrueB.mk rfl | omega) only [go_sem]
      exact end_rowS rfl rfl hll.symm (allScalar_st L)

set_option maxHeartbeats 16000000 in
theorem sameC_any (l k : List C3) (hl : l.length ≤ 100000) (hk : k.length ≤ 100000) (m m' : Bool) : Runs Tryd.prog env 15 [.pure m (.sl (cellsV l)), .pure m' (.sl (cellsV k))] [] (.pure true (.bool (decide (l = k)))) [] := by
  have hll := cellsV_length l
  have hkl := cellsV_length k
  refine Runs.of Tryd.func15 rfl (by simp [Tryd.ntmps15]) ?_
  rcases Classical.em (l.length = k.length) with hlen | hlen
  · have hI : ((l.length : Nat) : Int) = ((k.length : Nat) : Int) := by omega
    simp (maxSteps := 400000) -dsimp -implicitDefEqProofs (disch := first | exact TrueB.mk rfl | omega) only [go_sem, Tryd.ntmps15, hll, hkl, hlen]
    refine wpLoop_ind (α := Nat)
      (fun i => ⟨[(0, .pure m (.sl (cellsV l))), (1, .pure m' (.sl (cellsV k))), (5, .pure true (.int .i64 (i : Nat)))], []⟩)
      (fun i => i ≤ l.length ∧ l.take i = k.take i) (fun i => l.length - i) ?_ 0 ⟨by omega, rfl⟩ rfl
    rintro i ⟨hi, ht⟩
    rcases Classical.em (i < l.length) with hlt | hge
    · have hlt2 : i < k.length := by omega
      have g1 := cells_at hlt
      have g2 := cells_at hlt2
      have hd : l[i] = k[i] → l.take (i + 1) = k.take (i + 1) := fun e => by rw [← List.take_append_getElem hlt, ← List.take_append_getElem hlt2, ht, e]
      have hne : ¬ l[i] = k[i] → decide (l = k) = false := fun e => decide_eq_false fun h => e (by subst h; rfl)
      generalize l[i] = y at *
      generalize k[i] = x at *
      obtain ⟨a, b, c⟩ := y
      obtain ⟨p, s, e⟩ := x
      simp only at *
      rcases Classical.em (a = p) with h4 | h4
      · rcases Classical.em (b = s) with h5 | h5
        · rcases Classical.em (c = e) with h6 | h6
          · subst h4 h5 h6
            simp (maxSteps := 400000) -dsimp -implicitDefEqProofs (disch := first | exact TrueB.mk rfl | omega) only [go_sem, g1, g2, hll, hkl, beq_same]
            exact again_mk ⟨i + 1, ⟨by omega, hd rfl⟩, by omega, rfl⟩
          · subst h4 h5
            have h7 : (c == e) = false := by simpa using h6
            simp (maxSteps := 400000) -dsimp -implicitDefEqProofs (disch := first | exact TrueB.mk rfl | omega) only [go_sem, g1, g2, hll, hkl, beq_same, h7]
            first | exact end_bool rfl (hne (by simp [h6])).symm | done
        · subst h4
          have h7 : (b == s) = false := by simpa using h5
          simp (maxSteps := 400000) -dsimp -implicitDefEqProofs (disch := first | exact TrueB.mk rfl | omega) only [go_sem, g1, g2, hll, hkl, beq_same, h7]
          first | exact end_bool rfl (hne (by simp [h5])).symm | done
      · have h7 : (a == p) = false := by simpa using h4
        simp (maxSteps := 400000) -dsimp -implicitDefEqProofs (disch := first | exact TrueB.mk rfl | omega) only [go_sem, g1, g2, hll, hkl, beq_same, h7]
        first | exact end_bool rfl (hne (by simp [h4])).symm | done
    · have heq : l = k := by
        rw [List.take_of_length_le (by omega), List.take_of_length_le (by omega)] at ht
        exact ht
      simp (maxSteps := 400000) -dsimp -implicitDefEqProofs (disch := first | exact TrueB.mk rfl | omega) only [go_sem, hll, hkl]
      first | exact end_bool rfl (decide_eq_true heq).symm | done
  · have hI : ¬ ((l.length : Nat) : Int) = ((k.length : Nat) : Int) := by omega
    have hne : decide (l = k) = false := decide_eq_false fun h => hlen (by rw [h])
    simp (maxSteps := 400000) -dsimp -implicitDefEqProofs (disch := first | exact TrueB.mk rfl | omega) only [go_sem, Tryd.ntmps15, hll, hkl, hlen, hI]
    first | exact end_bool rfl hne.symm | done

set_option maxHeartbeats 16000000 in
theorem sameS_any (l k : List S2) (hl : l.length ≤ 100000) (hk : k.length ≤ 100000) (m m' : Bool) : Runs Tryd.prog env 16 [.pure m (.sl (stepsV l)), .pure m' (.sl (stepsV k))] [] (.pure true (.bool (decide (l = k)))) [] := by
  have hll := stepsV_length l
  have hkl := stepsV_length k
  refine Runs.of Tryd.func16 rfl (by simp [Tryd.ntmps16]) ?_
  rcases Classical.em (l.length = k.length) with hlen | hlen
  · have hI : ((l.length : Nat) : Int) = ((k.length : Nat) : Int) := by omega
    simp (maxSteps := 400000) -dsimp -implicitDefEqProofs (disch := first | exact TrueB.mk rfl | omega) only [go_sem, Tryd.ntmps16, hll, hkl, hlen]
    refine wpLoop_ind (α := Nat)
      (fun i => ⟨[(0, .pure m (.sl (stepsV l))), (1, .pure m' (.sl (stepsV k))), (5, .pure true (.int .i64 (i : Nat)))], []⟩)
      (fun i => i ≤ l.length ∧ l.take i = k.take i) (fun i => l.length - i) ?_ 0 ⟨by omega, rfl⟩ rfl
    rintro i ⟨hi, ht⟩
    rcases Classical.em (i < l.length) with hlt | hge
    · have hlt2 : i < k.length := by omega
      have g1 := steps_at hlt
      have g2 := steps_at hlt2
      have hd : l[i] = k[i] → l.take (i + 1) = k.take (i + 1) := fun e => by rw [← List.take_append_getElem hlt, ← List.take_append_getElem hlt2, ht, e]
      have hne : ¬ l[i] = k[i] → decide (l = k) = false := fun e => decide_eq_false fun h => e (by subst h; rfl)
      generalize l[i] = y at *
      generalize k[i] = x at *
      obtain ⟨a, b⟩ := y
      obtain ⟨p, s⟩ := x
      simp only at *
      rcases Classical.em (a = p) with h4 | h4
      · rcases Classical.em (b = s) with h5 | h5
        · subst h4 h5
          simp (maxSteps := 400000) -dsimp -implicitDefEqProofs (disch := first | exact TrueB.mk rfl | omega) only [go_sem, g1, g2, hll, hkl, beq_same]
          exact again_mk ⟨i + 1, ⟨by omega, hd rfl⟩, by omega, rfl⟩
        · subst h4
          have h7 : (b == s) = false := by simpa using h5
          simp (maxSteps := 400000) -dsimp -implicitDefEqProofs (disch := first | exact TrueB.mk rfl | omega) only [go_sem, g1, g2, hll, hkl, beq_same, h7]
          first | exact end_bool rfl (hne (by simp [h5])).symm | done
      · have h7 : (a == p) = false := by simpa using h4
        simp (maxSteps := 400000) -dsimp -implicitDefEqProofs (disch := first | exact TrueB.mk rfl | omega) only [go_sem, g1, g2, hll, hkl, beq_same, h7]
        first | exact end_bool rfl (hne (by simp [h4])).symm | done
    · have heq : l = k := by
        rw [List.take_of_length_le (by omega), List.take_of_length_le (by omega)] at ht
        exact ht
      simp (maxSteps := 400000) -dsimp -implicitDefEqProofs (disch := first | exact TrueB.mk rfl | omega) only [go_sem, hll, hkl]
      first | exact end_bool rfl (decide_eq_true heq).symm | done
  · have hI : ¬ ((l.length : Nat) : Int) = ((k.length : Nat) : Int) := by omega
    have hne : decide (l = k) = false := decide_eq_false fun h => hlen (by rw [h])
    simp (maxSteps := 400000) -dsimp -implicitDefEqProofs (disch := first | exact TrueB.mk rfl | omega) only [go_sem, Tryd.ntmps16, hll, hkl, hlen, hI]
    first | exact end_bool rfl hne.symm | done

theorem wfc_i64 {n : Nat} {cs : List PV} (h : WfC Tryd.prog (n + 1) 3 cs) : ∃ i : Int, cs = [.int .i64 i] ∧ -9223372036854775808 ≤ i ∧ i < 9223372036854775808 := by
  simp only [WfC, Tryd.underlying3] at h
  obtain ⟨i, h2, h3⟩ := h
  have hb : -9223372036854775808 ≤ i ∧ i ≤ 9223372036854775807 := by
    simpa [Lit.wf, IntKind.min, IntKind.max, IntKind.bits, IntKind.signed] using h3
  exact ⟨i, h2, by omega, by omega⟩
theorem wfc_u8 {n : Nat} {cs : List PV} (h : WfC Tryd.prog (n + 1) 5 cs) : ∃ c : UInt8, cs = [.int .u8 c.toNat] := by
  simp only [WfC, Tryd.underlying5] at h
  obtain ⟨i, h2, h3⟩ := h
  have hb : 0 ≤ i ∧ i ≤ 255 := by
    simpa [Lit.wf, IntKind.min, IntKind.max, IntKind.bits, IntKind.signed] using h3
  refine ⟨UInt8.ofNat i.toNat, ?_⟩
  rw [h2, UInt8.toNat_ofNat_of_lt' (by show _ < 256; omega)]
  congr 2
  omega
theorem one_cell {x y : PV} (ha : x.isAgg = false) (h : x.cells = [y]) : x = y := by
  cases x with
  | agg cs => cases ha
  | _ =>
    simp only [PV.cells, List.cons.injEq, and_true] at h
    exact h
theorem wfv_i64 {n : Nat} {x : PV} (h : WfV Tryd.prog (n + 1) 3 x) : ∃ i : Int, x = .int .i64 i ∧ -9223372036854775808 ≤ i ∧ i < 9223372036854775808 := by
  obtain ⟨h1, h2⟩ := h
  obtain ⟨i, e, hi⟩ := wfc_i64 h2
  exact ⟨i, one_cell (by rw [h1, agg3]) e, hi⟩
theorem wfv_u8 {n : Nat} {x : PV} (h : WfV Tryd.prog (n + 1) 5 x) : ∃ c : UInt8, x = .int .u8 c.toNat := by
  obtain ⟨h1, h2⟩ := h
  obtain ⟨i, e⟩ := wfc_u8 h2
  exact ⟨i, one_cell (by rw [h1, agg5]) e⟩
theorem agg_cells {x : PV} {cs : List PV} (ha : x.isAgg = true) (h : x.cells = cs) : x = .agg cs := by
  cases x with
  | agg c => rw [← h]; rfl
  | _ => cases ha
theorem wfv_step {n : Nat} {x : PV} (h : WfV Tryd.prog (n + 1 + 1) 48 x) : ∃ p e : Int, x = .agg [.int .i64 p, .int .i64 e] := by
  obtain ⟨h1, h2⟩ := h
  unfold WfC at h2
  rw [Tryd.underlying48] at h2
  have h3 : seqW (WfC Tryd.prog (n + 1)) [3, 3] x.cells := h2
  obtain ⟨a, b, e1, h4, c, d, e2, h5, e3⟩ := h3
  obtain ⟨i, rfl, hi⟩ := wfc_i64 h4
  obtain ⟨j, rfl, hj⟩ := wfc_i64 h5
  have e3' : d = [] := e3
  subst e3' e2
  exact ⟨i, j, agg_cells (by rw [h1, agg48]) e1⟩
theorem steps_of {xs : List PV} (h : ∀ x ∈ xs, ∃ p e : Int, x = .agg [.int .i64 p, .int .i64 e]) : ∃ l, xs = stepsV l := by
  induction xs with
  | nil => exact ⟨[], rfl⟩
  | cons x r ih =>
    obtain ⟨p, e, rfl⟩ := h x (List.mem_cons_self ..)
    obtain ⟨l, rfl⟩ := ih fun y hy => h y (List.mem_cons_of_mem _ hy)
    exact ⟨(p, e) :: l, rfl⟩
theorem wfv_steps {n : Nat} {x : PV} (h : WfV Tryd.prog (n + 1 + 1 + 1) 22 x) : ∃ l, x = .sl (stepsV l) ∧ l.length ≤ 140737488351232 := by
  obtain ⟨h1, h2⟩ := h
  unfold WfC at h2
  simp only [Tryd.underlying22] at h2
  obtain ⟨xs, e2, h3, h4⟩ := h2
  obtain ⟨l, rfl⟩ := steps_of fun y hy => wfv_step (n := n) ⟨(h4 y hy).1, (h4 y hy).2⟩
  rw [bytes48, stepsV_length] at h3
  exact ⟨l, one_cell (by rw [h1, agg22]) e2, by omega⟩

theorem laid_eq : (Rows.laid_umpire_umpireref19_rows : DataW Unit) = rowsD rowsB := by rfl
theorem glob_ok {W : World} (h : laidMetH Tryd.prog [("umpire/umpireref19.rows", Rows.laid_umpire_umpireref19_rows)] W) : GlobOk env (Olds W) W.heap.size W := by
  rw [MakeChecks.laidMetH_plain _ _ _ (by kernel_rfl), laid_eq] at h
  obtain ⟨v, h1, h2, h3⟩ := glob_rows (g := 0) (t := 113) (t2 := 112) (e := 9) h (List.mem_singleton.2 rfl) (by kernel_rfl) (by kernel_rfl) Tryd.underlying113 cells112 Tryd.underlying112 Tryd.underlying9 cells9
  refine ⟨fun g cs hg => ?_⟩
  by_cases hg0 : g = 0
  · subst hg0
    have hcs : cs = [.sl (rowsB.map fun r => .sl (r.map .str))] := (Option.some.inj (show some _ = some cs from hg)).symm
    subst hcs
    refine ⟨fun c hc => ?_, fun i c hi => ?_⟩
    · rw [List.mem_singleton.1 hc]
      rfl
    · have hi0 : i = 0 := by
        have := (List.getElem?_eq_some_iff.1 hi).1
        simp at this
        exact this
      subst hi0
      obtain rfl : _ = c := Option.some.inj hi
      exact ⟨v, h1, h2, h3⟩
  · exfalso
    have : env.glob g = none := by show (if g = 0 then _ else none) = none; rw [if_neg hg0]
    rw [this] at hg
    cases hg

end Go.Proofs.YticdhmcbooabaaaDoor
