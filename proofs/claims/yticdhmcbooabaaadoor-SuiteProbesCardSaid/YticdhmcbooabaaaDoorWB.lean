/- YticdhmcbooabaaaDoorWB: parts of the proof of CellsKeeps. No claim. -/
import Derived.Test.YticdhmcbooabaaaDoorW3
set_option linter.unusedVariables false
set_option linter.unusedSimpArgs false
set_option maxRecDepth 1000000
namespace Go.Proofs.YticdhmcbooabaaaDoor
open Go Go.Proofs.YticdhmcbooabaaaDoor.V

abbrev S2 := Int × Int
def sV (x : S2) : PV := .agg [.int .i64 x.1, .int .i64 x.2]
def stepsV (l : List S2) : List PV := l.map sV
theorem steps_at {l : List S2} {i : Nat} (h : i < l.length) : (stepsV l)[i]? = some (.agg [.int .i64 l[i].1, .int .i64 l[i].2]) := by simp [stepsV, h, sV]
theorem stepsV_length (l : List S2) : (stepsV l).length = l.length := by simp [stepsV]
abbrev W3 := Bool × Bool × Bool
def zeroB : Bn := ((0, 0, false), (0, 0, false), (0, 0, false))
def benchV (b : Bn) : PV := .agg [.int .i64 b.1.1, .int .i64 b.1.2.1, .int .i64 b.2.1.1, .int .i64 b.2.1.2.1, .int .i64 b.2.2.1, .int .i64 b.2.2.2.1, .bool b.1.2.2, .bool b.2.1.2.2, .bool b.2.2.2.2]
def playL (cf tm : Int) : List S2 → Bn → W3 → List C3 → Option (Bn × W3 × List C3)
  | [], b, w, L => some (b, w, L)
  | x :: t, b, w, L => match stepL cf tm b x.1 x.2 with
    | none => none
    | some (b', l, t0, t1, t2) => playL cf tm t b' (wof t0 w.1, wof t1 w.2.1, wof t2 w.2.2) (L ++ l)
def zL : List C3 → Nat
  | [] => 0
  | _ :: _ => 3
def wm (w : W3) : Bool := w.1 && w.2.1 && w.2.2
def playV : Option (Bn × W3 × List C3) → SV
  | none => .tuple [.pure true (benchV zeroB), .row 0 0, .pure true (.bool false)]
  | some (b, w, L) => .tuple [.pure (wm w) (benchV b), .row 0 L.length, .pure true (.bool true)]
def playS : Option (Bn × W3 × List C3) → Store
  | none => [(0, .row true 0 0 [])]
  | some (b, w, L) => [(0, .row true (zL L) 0 (cellsV L))]
theorem allScalar_cl (l : List C3) : allScalar (cellsV l) = true := by
  induction l with
  | nil => rfl
  | cons c t ih => exact ih
theorem end_crvB {P : Program} {sl : Slots} {S : Store} {m m' : Bool} {a ty kb off t2 t3 k n z lim : Nat} {xs : List PV} {x y x' y' : PV} {e : Eff} (h1 : get sl a = some (.ptr kb off)) (hl : loadV P 0 (get S) ty (.ptr kb off) = some e) (he : e.res = .pure m x) (hw : e.wr = []) (h2 : get sl t2 = some (.row k n)) (h3 : get sl t3 = some (.pure m' y)) (hk : get S k = some (.row true z lim xs)) (hn : n = xs.length) (hs : allScalar xs = true) (hx : norm x = x') (hy : norm y = y') (hxs : x'.scalar = true) (hys : y'.scalar = true) :
    outV P 0 [.cell a ty, .tmp t2, .tmp t3] sl S = some (.tuple [.pure m x', .row 0 n, .pure m' y'], [(0, .row true z 0 xs)]) := by
  subst hx hy
  simp only [outV, resAll, resOne, h1, hl, he, hw, h2, h3, back, single, leave, List.range_zero, refs, refsL, List.nil_append, List.append_nil, row_back hk]
  simp [takeAll, idx, ren, renL, hk, renO, reset, rowOf, hn, hs, hxs, hys, plainV]
theorem stepL_ok {cf tm : Int} (h1 : 1 ≤ cf ∧ cf ≤ 255) (h2 : 1 ≤ tm ∧ tm ≤ 255) {b b' : Bn} (hb : okB b) {p e : Int} {l : List C3} {t : W3} (h : stepL cf tm b p e = some (b', l, t)) : okB b' ∧ 1 ≤ l.length ∧ l.length ≤ 3 := by
  obtain ⟨x, y, z⟩ := b
  obtain ⟨hx, hy, hz⟩ := hb
  simp only at hx hy hz
  unfold stepL at h
  simp only at h
  split at h
  · split at h
    · split at h
      · cases h
      · rename_i x' e1
        have hx' := hapL_ok h1 h2 hx e1
        split at h
        · cases h
          exact ⟨⟨hx', hy, hz⟩, by simp, by simp⟩
        · unfold follL at h
          split at h
          · cases h
            exact ⟨⟨hx', hy, hz⟩, by simp, by simp⟩
          · rename_i y' e2 e3
            cases h
            exact ⟨⟨hx', hapL_ok h1 h2 hy e2, hz⟩, by simp, by simp⟩
          · rename_i z' e2 e3
            cases h
            exact ⟨⟨hx', hy, hapL_ok h1 h2 hz e3⟩, by simp, by simp⟩
          · rename_i y' z' e2 e3
            cases h
            exact ⟨⟨hx', hapL_ok h1 h2 hy e2, hapL_ok h1 h2 hz e3⟩, by simp, by simp⟩
    · cases h
  · split at h
    · split at h
      · split at h
        · cases h
        · rename_i y' e1
          cases h
          exact ⟨⟨hx, hapL_ok h1 h2 hy e1, hz⟩, by simp, by simp⟩
      · cases h
    · split at h
      · split at h
        · split at h
          · cases h
          · rename_i z' e1
            cases h
            exact ⟨⟨hx, hy, hapL_ok h1 h2 hz e1⟩, by simp, by simp⟩
        · cases h
      · cases h

set_option maxHeartbeats 64000000 in
theorem play_any {cf tm : Int} (h1 : 1 ≤ cf ∧ cf ≤ 255) (h2 : 1 ≤ tm ∧ tm ≤ 255) (l : List S2) (hl : l.length ≤ 100000) (m m' : Bool) :
    Runs Tryd.prog env 28 [.pure m (confV cf tm 1), .pure m' (.sl (stepsV l))] [] (playV (playL cf tm l zeroB (true, true, true) [])) (playS (playL cf tm l zeroB (true, true, true) [])) := by
  generalize hR : playL cf tm l zeroB (true, true, true) [] = R
  have hsl := stepsV_length l
  have sN := @step_no
  have sY := @step_yes
  unfold confV at *
  refine Runs.of Tryd.func28 rfl (by simp [Tryd.ntmps28]) ?_
  simp (maxSteps := 400000) -dsimp -implicitDefEqProofs (disch := first | exact TrueB.mk rfl | omega) only [go_sem, Tryd.ntmps28, hsl]
  refine wpLoop_ind (α := Nat × Bn × W3 × List C3 × Nat)
    (fun x => ⟨[(2, .ptr 544 0), (4, .ptr 545 0), (7, .ptr 546 0), (8, .row 547 x.2.2.2.1.length), (13, .pure m' (.sl (stepsV l))), (14, .pure true (.int .i64 (l.length : Nat))), (15, .pure true (.int .i64 (x.1 : Nat)))], [(544, .box [.pure m (.int .i64 cf), .pure m (.int .i64 tm), .pure m (.int .i64 1), .pure m (.int .i64 0), .pure m (.str []), .pure m (.str []), .pure m (.int .i64 0), .pure m (.int .u32 0), .pure m (.bool false)]), (545, boxW true true true true true true zeroB), (546, boxW x.2.2.1.1 x.2.2.1.2.1 x.2.2.1.2.2 true true true x.2.1), (547, .row true (zL x.2.2.2.1) x.2.2.2.2 (cellsV x.2.2.2.1))]⟩)
    (fun x => x.1 ≤ l.length ∧ okB x.2.1 ∧ x.2.2.2.1.length ≤ 3 * x.1 ∧ playL cf tm (l.drop x.1) x.2.1 x.2.2.1 x.2.2.2.1 = R) (fun x => l.length - x.1) ?_ (0, zeroB, (true, true, true), [], 0) ⟨by omega, ⟨⟨by decide, by decide⟩, ⟨by decide, by decide⟩, ⟨by decide, by decide⟩⟩, by simp, hR⟩ rfl
  clear hR
  rintro ⟨i, b, w, L, lim⟩ ⟨hi, hb, hL, hR⟩
  simp only at hi hb hL hR ⊢
  obtain ⟨w0, w1, w2⟩ := w
  have hc := cellsV_length L
  rcases Classical.em (i < l.length) with hlt | hge
  · have g1 := steps_at hlt
    rw [List.drop_eq_getElem_cons hlt] at hR
    obtain ⟨x, y, z⟩ := b
    cases hs : stepL cf tm (x, y, z) l[i].1 l[i].2 with
    | none =>
      simp only [playL, hs] at hR
      subst hR
      have cc := fun mc mx => sN (w0 := w0) (w1 := w1) (w2 := w2) (v := true) hb hs mc mx
      generalize l[i] = st at *
      unfold boxW at *
      simp (maxSteps := 400000) -dsimp -implicitDefEqProofs (disch := first | exact TrueB.mk rfl | omega) only [go_sem, g1]
      refine wpAct_callS [546] (cc _ _) rfl rfl rfl rfl rfl rfl rfl rfl (by cases w0 <;> cases w1 <;> cases w2 <;> rfl) rfl ?_
      simp (maxSteps := 400000) -dsimp -implicitDefEqProofs (disch := first | exact TrueB.mk rfl | omega) only [go_sem]
      first | exact end_crvB rfl rfl rfl rfl rfl rfl rfl rfl rfl rfl rfl rfl rfl | done
    | some q =>
      obtain ⟨b', ls, t0, t1, t2⟩ := q
      simp only [playL, hs] at hR
      have hk := stepL_ok h1 h2 hb hs
      have cc := fun mc mx => sY (w0 := w0) (w1 := w1) (w2 := w2) (v := true) h1 h2 hb hs mc mx
      simp only [vof_true] at cc
      have hc2 := cellsV_length ls
      have hz : zL L = 3 ∨ zL L = 0 := by cases L <;> simp [zL]
      have hz2 : zL (L ++ ls) = 3 := by
        cases L with
        | nil => cases ls with
          | nil => simp at hk
          | cons c t => rfl
        | cons c t => rfl
      generalize zL L = zz at hz ⊢
      generalize l[i] = st at *
      generalize wof t0 w0 = v0 at *
      generalize wof t1 w1 = v1 at *
      generalize wof t2 w2 = v2 at *
      unfold boxW at *
      simp (maxSteps := 400000) -dsimp -implicitDefEqProofs (disch := first | exact TrueB.mk rfl | omega) only [go_sem, g1]
      refine wpAct_callS [546] (cc _ _) rfl rfl rfl rfl rfl rfl rfl rfl (by cases w0 <;> cases w1 <;> cases w2 <;> rfl) rfl ?_
      simp (maxSteps := 400000) -dsimp -implicitDefEqProofs (disch := first | exact TrueB.mk rfl | omega) only [go_sem, hc, hc2, hz, allScalar_cl, Bool.or_true, Bool.and_true]
      refine again_mk ⟨(i + 1, b', (v0, v1, v2), L ++ ls, L.length), ⟨by omega, hk.1, by rw [List.length_append]; omega, hR⟩, by simp only; omega, ?_⟩
      simp only [hz2, cellsV, List.map_append, List.length_append]
      rfl
  · obtain rfl : i = l.length := by omega
    rw [List.drop_length] at hR
    simp only [playL] at hR
    subst hR
    unfold boxW
    simp (maxSteps := 400000) -dsimp -implicitDefEqProofs (disch := first | exact TrueB.mk rfl | omega) only [go_sem]
    cases w0 <;> cases w1 <;> cases w2 <;> (refine Eq.trans (end_crvB rfl rfl rfl rfl rfl rfl rfl hc.symm (allScalar_cl L) rfl rfl rfl rfl) ?_; rfl)

theorem newV_w (w : W3) (b : Bn) (n : Nat) (q : Bool) : newV (.tuple [.pure (wm w) (benchV b), .row 0 n, .pure true (.bool q)]) = true := by
  obtain ⟨w0, w1, w2⟩ := w
  cases w0 <;> cases w1 <;> cases w2 <;> rfl
def PlayV : Option (Bn × W3 × List C3) → SV
  | none => .tuple [.row 0 0, .pure true (.bool false)]
  | some (b, w, L) => .tuple [.row 0 L.length, .pure true (.bool true)]

set_option maxHeartbeats 16000000 in
theorem Play_any {cf tm : Int} (h1 : 1 ≤ cf ∧ cf ≤ 255) (h2 : 1 ≤ tm ∧ tm ≤ 255) (l : List S2) (hl : l.length ≤ 100000) (m m' : Bool) :
    Runs Tryd.prog env 13 [.pure m (confV cf tm 1), .pure m' (.sl (stepsV l))] [] (PlayV (playL cf tm l zeroB (true, true, true) [])) (playS (playL cf tm l zeroB (true, true, true) [])) := by
  have pp := fun m m' => play_any h1 h2 l hl m m'
  generalize playL cf tm l zeroB (true, true, true) [] = R at *
  cases R with
  | none =>
    unfold playV playS benchV at pp
    unfold PlayV playS confV at *
    refine Runs.of Tryd.func13 rfl (by simp [Tryd.ntmps13]) ?_
    simp (maxSteps := 400000) -dsimp -implicitDefEqProofs (disch := first | exact TrueB.mk rfl | omega) only [go_sem, Tryd.ntmps13]
    refine wpAct_callG (pp _ _) rfl rfl rfl rfl rfl rfl rfl rfl rfl ?_
    simp (maxSteps := 400000) -dsimp -implicitDefEqProofs (disch := first | exact TrueB.mk rfl | omega) only [go_sem]
    refine Eq.trans (end_rowT2 (x := .bool false) (xs := []) rfl rfl rfl rfl rfl rfl) ?_
    rfl
  | some q =>
    obtain ⟨b, w, L⟩ := q
    have nw := newV_w w b L.length true
    have hc := cellsV_length L
    have hs := allScalar_cl L
    unfold playV playS benchV at pp
    unfold benchV at nw
    unfold PlayV playS confV at *
    refine Runs.of Tryd.func13 rfl (by simp [Tryd.ntmps13]) ?_
    simp (maxSteps := 400000) -dsimp -implicitDefEqProofs (disch := first | exact TrueB.mk rfl | omega) only [go_sem, Tryd.ntmps13]
    refine wpAct_callG (pp _ _) rfl rfl rfl rfl rfl rfl nw rfl rfl ?_
    simp (maxSteps := 400000) -dsimp -implicitDefEqProofs (disch := first | exact TrueB.mk rfl | omega) only [go_sem]
    refine Eq.trans (end_rowT2 rfl rfl rfl hc.symm rfl rfl) ?_
    rw [hs]
    rfl

def boxA (f : Bool) (b : Bn) : Ob := boxW f f f f f f b
def confO (m : Bool) (cf tm : Int) : Ob := .box [.pure m (.int .i64 cf), .pure m (.int .i64 tm), .pure m (.int .i64 1), .pure m (.int .i64 0), .pure m (.str []), .pure m (.str []), .pure m (.int .i64 0), .pure m (.int .u32 0), .pure m (.bool false)]
set_option maxHeartbeats 16000000 in
theorem clo_any {cf tm : Int} (h1 : 1 ≤ cf ∧ cf ≤ 255) (h2 : 1 ≤ tm ∧ tm ≤ 255) {b : Bn} (hb : okB b) (x : S2) (f m mx : Bool) :
    Runs Tryd.prog env 32 [.pure mx (sV x), .ptr 0 0, .ptr 1 0] [(0, boxA f b), (1, confO m cf tm)] (.pure true (.bool !(stepL cf tm b x.1 x.2).isSome)) [(0, boxA f b), (1, confO m cf tm)] := by
  obtain ⟨x0, y, z⟩ := b
  obtain ⟨p, e⟩ := x
  simp only
  have sN := @step_no f f f f cf tm x0 y z hb p e
  have sY := @step_yes f f f f cf tm h1 h2 x0 y z hb p e
  cases hs : stepL cf tm (x0, y, z) p e with
  | none =>
    have cc := fun mc mx => sN hs mc mx
    clear sN sY
    unfold boxA boxW confO sV confV at *
    cases f <;> cases m
    all_goals
      refine Runs.of Tryd.func32 rfl (by simp [Tryd.ntmps32]) ?_
      simp (maxSteps := 400000) -dsimp -implicitDefEqProofs (disch := first | exact TrueB.mk rfl | omega) only [go_sem, Tryd.ntmps32]
      first | refine wpAct_callS [82] (cc _ _) rfl rfl rfl rfl rfl rfl rfl rfl rfl rfl ?_ | done
      simp (maxSteps := 400000) -dsimp -implicitDefEqProofs (disch := first | exact TrueB.mk rfl | omega) only [go_sem]
      first | exact rfl | done
  | some q =>
    obtain ⟨b', ls, t0, t1, t2⟩ := q
    have cc := fun mc mx => sY hs mc mx
    clear sN sY
    generalize wof t0 f = u0 at *
    generalize wof t1 f = u1 at *
    generalize wof t2 f = u2 at *
    generalize vof t0 f = v0 at *
    generalize vof t1 f = v1 at *
    generalize vof t2 f = v2 at *
    unfold boxA boxW confO sV confV at *
    cases f <;> cases m
    all_goals
      refine Runs.of Tryd.func32 rfl (by simp [Tryd.ntmps32]) ?_
      simp (maxSteps := 400000) -dsimp -implicitDefEqProofs (disch := first | exact TrueB.mk rfl | omega) only [go_sem, Tryd.ntmps32]
      first | refine wpAct_callS [82] (cc _ _) rfl rfl rfl rfl rfl rfl rfl rfl rfl rfl ?_ | done
      simp (maxSteps := 400000) -dsimp -implicitDefEqProofs (disch := first | exact TrueB.mk rfl | omega) only [go_sem]
      first | exact rfl | done

def canB (cf tm : Int) (b : Bn) (x : S2) : Bool := (stepL cf tm b x.1 x.2).isSome
abbrev memC (f m : Bool) (cf tm : Int) (b : Bn) : Store := [(1, boxA f b), (2, confO m cf tm)]
theorem clo_at {cf tm : Int} (h1 : 1 ≤ cf ∧ cf ≤ 255) (h2 : 1 ≤ tm ∧ tm ≤ 255) {b : Bn} (hb : okB b) (x : S2) (f m mx q : Bool) (hq : canB cf tm b x = q) :
    Runs Tryd.prog env 32 [.pure mx (sV x), .ptr 0 0, .ptr 1 0] [(0, boxA f b), (1, confO m cf tm)] (.pure true (.bool !q)) [(0, boxA f b), (1, confO m cf tm)] := by
  subst hq
  exact clo_any h1 h2 hb x f m mx

set_option maxHeartbeats 16000000 in
theorem indexF_any {cf tm : Int} (h1 : 1 ≤ cf ∧ cf ≤ 255) (h2 : 1 ≤ tm ∧ tm ≤ 255) {b : Bn} (hb : okB b) (S : List S2) (hS : S.length ≤ 100000) {j : Nat} (hj : j < S.length) (hj1 : canB cf tm b S[j] = false) (hj2 : ∀ i (h : i < S.length), i < j → canB cf tm b S[i] = true) (f m : Bool) :
    Runs Tryd.prog env 43 [.row 0 S.length, .clo 32 [.ptr 1 0, .ptr 2 0]] ((0, .row false 2 0 (stepsV S)) :: memC f m cf tm b) (.pure true (.int .i64 (j : Nat))) ((0, .row false 2 0 (stepsV S)) :: memC f m cf tm b) := by
  have hsl := stepsV_length S
  have cl := fun x mx q hq => clo_at h1 h2 hb x f m mx q hq
  unfold memC boxA boxW confO at *
  cases f with
  | false =>
    cases m with
    | false =>
      refine Runs.of Tryd.func43 rfl (by simp [Tryd.ntmps43]) ?_
      simp (maxSteps := 400000) -dsimp -implicitDefEqProofs (disch := first | exact TrueB.mk rfl | omega) only [go_sem, Tryd.ntmps43, hsl]
      refine wpLoop_ind (α := Nat)
        (fun i => ⟨[(0, .row 0 S.length), (1, .clo 32 [.ptr 1 0, .ptr 2 0]), (7, .pure true (.int .i64 (S.length : Nat))), (8, .pure true (.int .i64 (i : Nat)))], [(0, .row false 2 0 (stepsV S)), (1, boxA false b), (2, confO false cf tm)]⟩)
        (fun i => i ≤ j) (fun i => S.length - i) ?_ 0 (by omega) rfl
      intro i hi
      unfold boxA boxW confO
      have hlt : i < S.length := by omega
      have g1 := steps_at hlt
      rcases Classical.em (i = j) with rfl | hne
      · have cc := fun mx => cl S[i] mx false hj1
        generalize S[i] = st at *
        unfold sV at *
        simp (maxSteps := 400000) -dsimp -implicitDefEqProofs (disch := first | exact TrueB.mk rfl | omega) only [go_sem, g1, hsl]
        first | refine wpAct_callS [1, 2] (cc _) rfl rfl rfl rfl rfl rfl rfl rfl rfl rfl ?_ | done
        simp (maxSteps := 400000) -dsimp -implicitDefEqProofs (disch := first | exact TrueB.mk rfl | omega) only [go_sem]
        first | exact rfl | done
      · have cc := fun mx => cl S[i] mx true (hj2 i hlt (by omega))
        generalize S[i] = st at *
        unfold sV at *
        simp (maxSteps := 400000) -dsimp -implicitDefEqProofs (disch := first | exact TrueB.mk rfl | omega) only [go_sem, g1, hsl]
        first | refine wpAct_callS [1, 2] (cc _) rfl rfl rfl rfl rfl rfl rfl rfl rfl rfl ?_ | done
        simp (maxSteps := 400000) -dsimp -implicitDefEqProofs (disch := first | exact TrueB.mk rfl | omega) only [go_sem]
        refine again_mk ⟨i + 1, by omega, by omega, ?_⟩
        rfl
    | true =>
      refine Runs.of Tryd.func43 rfl (by simp [Tryd.ntmps43]) ?_
      simp (maxSteps := 400000) -dsimp -implicitDefEqProofs (disch := first | exact TrueB.mk rfl | omega) only [go_sem, Tryd.ntmps43, hsl]
      refine wpLoop_ind (α := Nat)
        (fun i => ⟨[(0, .row 0 S.length), (1, .clo 32 [.ptr 1 0, .ptr 2 0]), (7, .pure true (.int .i64 (S.length : Nat))), (8, .pure true (.int .i64 (i : Nat)))], [(0, .row false 2 0 (stepsV S)), (1, boxA false b), (2, confO true cf tm)]⟩)
        (fun i => i ≤ j) (fun i => S.length - i) ?_ 0 (by omega) rfl
      intro i hi
      unfold boxA boxW confO
      have hlt : i < S.length := by omega
      have g1 := steps_at hlt
      rcases Classical.em (i = j) with rfl | hne
      · have cc := fun mx => cl S[i] mx false hj1
        generalize S[i] = st at *
        unfold sV at *
        simp (maxSteps := 400000) -dsimp -implicitDefEqProofs (disch := first | exact TrueB.mk rfl | omega) only [go_sem, g1, hsl]
        first | refine wpAct_callS [1, 2] (cc _) rfl rfl rfl rfl rfl rfl rfl rfl rfl rfl ?_ | done
        simp (maxSteps := 400000) -dsimp -implicitDefEqProofs (disch := first | exact TrueB.mk rfl | omega) only [go_sem]
        first | exact rfl | done
      · have cc := fun mx => cl S[i] mx true (hj2 i hlt (by omega))
        generalize S[i] = st at *
        unfold sV at *
        simp (maxSteps := 400000) -dsimp -implicitDefEqProofs (disch := first | exact TrueB.mk rfl | omega) only [go_sem, g1, hsl]
        first | refine wpAct_callS [1, 2] (cc _) rfl rfl rfl rfl rfl rfl rfl rfl rfl rfl ?_ | done
        simp (maxSteps := 400000) -dsimp -implicitDefEqProofs (disch := first | exact TrueB.mk rfl | omega) only [go_sem]
        refine again_mk ⟨i + 1, by omega, by omega, ?_⟩
        rfl
  | true =>
    cases m with
    | false =>
      refine Runs.of Tryd.func43 rfl (by simp [Tryd.ntmps43]) ?_
      simp (maxSteps := 400000) -dsimp -implicitDefEqProofs (disch := first | exact TrueB.mk rfl | omega) only [go_sem, Tryd.ntmps43, hsl]
      refine wpLoop_ind (α := Nat)
        (fun i => ⟨[(0, .row 0 S.length), (1, .clo 32 [.ptr 1 0, .ptr 2 0]), (7, .pure true (.int .i64 (S.length : Nat))), (8, .pure true (.int .i64 (i : Nat)))], [(0, .row false 2 0 (stepsV S)), (1, boxA true b), (2, confO false cf tm)]⟩)
        (fun i => i ≤ j) (fun i => S.length - i) ?_ 0 (by omega) rfl
      intro i hi
      unfold boxA boxW confO
      have hlt : i < S.length := by omega
      have g1 := steps_at hlt
      rcases Classical.em (i = j) with rfl | hne
      · have cc := fun mx => cl S[i] mx false hj1
        generalize S[i] = st at *
        unfold sV at *
        simp (maxSteps := 400000) -dsimp -implicitDefEqProofs (disch := first | exact TrueB.mk rfl | omega) only [go_sem, g1, hsl]
        first | refine wpAct_callS [1, 2] (cc _) rfl rfl rfl rfl rfl rfl rfl rfl rfl rfl ?_ | done
        simp (maxSteps := 400000) -dsimp -implicitDefEqProofs (disch := first | exact TrueB.mk rfl | omega) only [go_sem]
        first | exact rfl | done
      · have cc := fun mx => cl S[i] mx true (hj2 i hlt (by omega))
        generalize S[i] = st at *
        unfold sV at *
        simp (maxSteps := 400000) -dsimp -implicitDefEqProofs (disch := first | exact TrueB.mk rfl | omega) only [go_sem, g1, hsl]
        first | refine wpAct_callS [1, 2] (cc _) rfl rfl rfl rfl rfl rfl rfl rfl rfl rfl ?_ | done
        simp (maxSteps := 400000) -dsimp -implicitDefEqProofs (disch := first | exact TrueB.mk rfl | omega) only [go_sem]
        refine again_mk ⟨i + 1, by omega, by omega, ?_⟩
        rfl
    | true =>
      refine Runs.of Tryd.func43 rfl (by simp [Tryd.ntmps43]) ?_
      simp (maxSteps := 400000) -dsimp -implicitDefEqProofs (disch := first | exact TrueB.mk rfl | omega) only [go_sem, Tryd.ntmps43, hsl]
      refine wpLoop_ind (α := Nat)
        (fun i => ⟨[(0, .row 0 S.length), (1, .clo 32 [.ptr 1 0, .ptr 2 0]), (7, .pure true (.int .i64 (S.length : Nat))), (8, .pure true (.int .i64 (i : Nat)))], [(0, .row false 2 0 (stepsV S)), (1, boxA true b), (2, confO true cf tm)]⟩)
        (fun i => i ≤ j) (fun i => S.length - i) ?_ 0 (by omega) rfl
      intro i hi
      unfold boxA boxW confO
      have hlt : i < S.length := by omega
      have g1 := steps_at hlt
      rcases Classical.em (i = j) with rfl | hne
      · have cc := fun mx => cl S[i] mx false hj1
        generalize S[i] = st at *
        unfold sV at *
        simp (maxSteps := 400000) -dsimp -implicitDefEqProofs (disch := first | exact TrueB.mk rfl | omega) only [go_sem, g1, hsl]
        first | refine wpAct_callS [1, 2] (cc _) rfl rfl rfl rfl rfl rfl rfl rfl rfl rfl ?_ | done
        simp (maxSteps := 400000) -dsimp -implicitDefEqProofs (disch := first | exact TrueB.mk rfl | omega) only [go_sem]
        first | exact rfl | done
      · have cc := fun mx => cl S[i] mx true (hj2 i hlt (by omega))
        generalize S[i] = st at *
        unfold sV at *
        simp (maxSteps := 400000) -dsimp -implicitDefEqProofs (disch := first | exact TrueB.mk rfl | omega) only [go_sem, g1, hsl]
        first | refine wpAct_callS [1, 2] (cc _) rfl rfl rfl rfl rfl rfl rfl rfl rfl rfl ?_ | done
        simp (maxSteps := 400000) -dsimp -implicitDefEqProofs (disch := first | exact TrueB.mk rfl | omega) only [go_sem]
        refine again_mk ⟨i + 1, by omega, by omega, ?_⟩
        rfl

theorem filter_take {c : S2 → Bool} {S : List S2} {j : Nat} (h : j < S.length) : (S.take (j + 1)).filter c = (S.take j).filter c ++ (if c S[j] then [S[j]] else []) := by
  rw [← List.take_append_getElem h, List.filter_append]
  congr 1
  by_cases hc : c S[j] <;> simp [hc]
theorem stepsV_set (xs : List S2) (i : Nat) (x : S2) : (stepsV xs).set i (.agg [.int .i64 x.1, .int .i64 x.2]) = stepsV (xs.set i x) := by
  unfold stepsV
  rw [List.map_set]
  rfl
theorem stepsV_take (xs : List S2) (i : Nat) : (stepsV xs).take i = stepsV (xs.take i) := by simp [stepsV]
theorem allW_steps (l : List S2) : allW 2 (stepsV l) = true := by
  induction l with
  | nil => rfl
  | cons k t ih => exact ih
theorem allW_app (l : List S2) (n : Nat) : allW 2 (stepsV l ++ List.replicate n (.agg [.int .i64 0, .int .i64 0])) = true := by
  induction l with
  | nil =>
    induction n with
    | zero => rfl
    | succ n ih => exact ih
  | cons k t ih => exact ih

set_option maxHeartbeats 64000000 in
theorem delete_any {cf tm : Int} (h1 : 1 ≤ cf ∧ cf ≤ 255) (h2 : 1 ≤ tm ∧ tm ≤ 255) {b : Bn} (hb : okB b) (S : List S2) (hS : S.length ≤ 100000) {j0 : Nat} (hj : j0 < S.length) (hj1 : canB cf tm b S[j0] = false) (hj2 : ∀ i (h : i < S.length), i < j0 → canB cf tm b S[i] = true) (f m : Bool) :
    Runs Tryd.prog env 30 [.row 0 S.length, .clo 32 [.ptr 1 0, .ptr 2 0]] ((0, .row false 2 0 (stepsV S)) :: memC f m cf tm b) (.hd 0 S.length (S.filter (canB cf tm b)).length) ((0, .row false 2 0 (stepsV (S.filter (canB cf tm b)) ++ List.replicate (S.length - (S.filter (canB cf tm b)).length) (.agg [.int .i64 0, .int .i64 0]))) :: memC f m cf tm b) := by
  have hsl := stepsV_length S
  have cl := fun x mx q hq => clo_at h1 h2 hb x f m mx q hq
  have ix := indexF_any h1 h2 hb S hS hj hj1 hj2 f m
  have hfil : (S.take j0).filter (canB cf tm b) = S.take j0 := by
    rw [List.filter_eq_self]
    intro x hx
    obtain ⟨i, hi, rfl⟩ := List.getElem_of_mem hx
    rw [List.length_take] at hi
    rw [List.getElem_take]
    exact hj2 i (by omega) (by omega)
  have hfil1 : (S.take (j0 + 1)).filter (canB cf tm b) = S.take j0 := by rw [filter_take hj, hj1, hfil]; simp
  have hnj : ¬ ((j0 : Nat) : Int) = -1 := by omega
  unfold memC boxA boxW confO at *
  cases f with
  | false =>
    cases m with
    | false =>
      refine Runs.of Tryd.func30 rfl (by simp [Tryd.ntmps30]) ?_
      simp (maxSteps := 400000) -dsimp -implicitDefEqProofs (disch := first | exact TrueB.mk rfl | omega) only [go_sem, Tryd.ntmps30, hsl]
      first | refine wpAct_callS [0, 1, 2] (ix) rfl rfl rfl rfl rfl rfl rfl rfl rfl rfl ?_ | done
      simp (maxSteps := 400000) -dsimp -implicitDefEqProofs (disch := first | exact TrueB.mk rfl | omega) only [go_sem, hnj]
      refine wpLoop_ind (α := Nat × Nat × List S2)
        (fun x => ⟨[(0, .row 0 S.length), (1, .clo 32 [.ptr 1 0, .ptr 2 0]), (5, .pure true (.int .i64 (x.1 : Nat))), (6, .pure true (.int .i64 (x.2.1 : Nat)))], [(0, .row false 2 0 (stepsV x.2.2)), (1, boxA false b), (2, confO false cf tm)]⟩)
        (fun x => x.1 < x.2.1 ∧ x.2.1 ≤ S.length ∧ x.2.2.length = S.length ∧ x.2.2.take x.1 = (S.take x.2.1).filter (canB cf tm b) ∧ x.2.2.drop x.2.1 = S.drop x.2.1) (fun x => S.length - x.2.1) ?_ (j0, j0 + 1, S) ⟨by simp, by simp only; omega, rfl, hfil1.symm, rfl⟩ rfl
      rintro ⟨i, j, xs⟩ ⟨q1, q2, q3, q4, q5⟩
      simp only at q1 q2 q3 q4 q5 ⊢
      unfold boxA boxW confO
      have hxl := stepsV_length xs
      rcases Classical.em (j < S.length) with hlt | hge
      · have hltx : j < xs.length := by omega
        have g1 := steps_at hltx
        have hxj : xs[j] = S[j] := by
          have : (xs.drop j)[0]? = (S.drop j)[0]? := by rw [q5]
          simpa [hlt, hltx] using this
        rw [hxj] at g1
        have hft := filter_take (c := canB cf tm b) hlt
        cases hcan : canB cf tm b S[j] with
        | false =>
          have cc := fun mx => cl S[j] mx false hcan
          rw [hcan] at hft
          simp only [Bool.false_eq_true, if_false, List.append_nil] at hft
          generalize S[j] = st at *
          unfold sV at *
          simp (maxSteps := 400000) -dsimp -implicitDefEqProofs (disch := first | exact TrueB.mk rfl | omega) only [go_sem, g1, hxl, q3]
          first | refine wpAct_callS [1, 2] (cc _) rfl rfl rfl rfl rfl rfl rfl rfl rfl rfl ?_ | done
          simp (maxSteps := 400000) -dsimp -implicitDefEqProofs (disch := first | exact TrueB.mk rfl | omega) only [go_sem]
          refine again_mk ⟨(i, j + 1, xs), ⟨Nat.lt_succ_of_lt q1, hlt, q3, q4.trans hft.symm, by rw [← List.drop_drop, q5, List.drop_drop]⟩, by simp only; omega, ?_⟩
          rfl
        | true =>
          have cc := fun mx => cl S[j] mx true hcan
          rw [hcan, if_pos rfl] at hft
          have hset := stepsV_set xs i S[j]
          have g2 := steps_at (l := xs) (i := i) (by omega)
          have p4 : (xs.set i S[j]).take (i + 1) = (S.take (j + 1)).filter (canB cf tm b) := by
            rw [hft, ← q4, List.take_set, List.take_succ_eq_append_getElem (by omega : i < xs.length), List.set_append_right _ _ (by rw [List.length_take]; omega)]
            simp [List.length_take, Nat.min_eq_left (by omega : i ≤ xs.length)]
          have p5 : (xs.set i S[j]).drop (j + 1) = S.drop (j + 1) := by
            rw [List.drop_set_of_lt (by omega), ← List.drop_drop, q5, List.drop_drop]
          have hsl2 : (xs.set i S[j]).length = S.length := by rw [List.length_set]; exact q3
          generalize S[j] = st at *
          unfold sV at *
          simp (maxSteps := 400000) -dsimp -implicitDefEqProofs (disch := first | exact TrueB.mk rfl | omega) only [go_sem, g1, hxl, q3]
          first | refine wpAct_callS [1, 2] (cc _) rfl rfl rfl rfl rfl rfl rfl rfl rfl rfl ?_ | done
          simp (maxSteps := 400000) -dsimp -implicitDefEqProofs (disch := first | exact TrueB.mk rfl | omega) only [go_sem, g2, hxl, q3, hset]
          refine again_mk ⟨(i + 1, j + 1, xs.set i st), ⟨Nat.succ_lt_succ q1, hlt, hsl2, p4, p5⟩, by simp only; omega, ?_⟩
          rfl
      · obtain rfl : j = S.length := by omega
        rw [List.take_length] at q4
        have hfl : (S.filter (canB cf tm b)).length = i := by rw [← q4, List.length_take]; omega
        have htk := stepsV_take xs i
        rw [q4] at htk
        generalize S.filter (canB cf tm b) = Z at *
        subst hfl
        have hw := allW_app Z (S.length - Z.length)
        have hzl := stepsV_length Z
        have htk2 : (stepsV Z ++ List.replicate (S.length - Z.length) (PV.agg [.int .i64 0, .int .i64 0])).take Z.length = stepsV Z := by rw [List.take_append_of_le_length (by omega), List.take_of_length_le (by omega)]
        have hzs : Z.length ≤ S.length := by omega
        have hle : S.length ≤ (stepsV Z).length + (List.replicate (S.length - Z.length) (PV.agg [.int .i64 0, .int .i64 0])).length := by rw [hzl, List.length_replicate]; omega
        have hle3 : Z.length ≤ (stepsV Z).length + (List.replicate (S.length - Z.length) (PV.agg [.int .i64 0, .int .i64 0])).length := by rw [hzl]; omega
        have ht : (stepsV Z ++ (List.replicate (S.length - Z.length) (PV.agg [.int .i64 0, .int .i64 0]))).take S.length = stepsV Z ++ (List.replicate (S.length - Z.length) (PV.agg [.int .i64 0, .int .i64 0])) := List.take_of_length_le (by rw [List.length_append, hzl, List.length_replicate]; omega)
        have hlz : Z.length + (S.length - Z.length) = S.length := by omega
        have hsp : 0 < S.length := by omega
        simp (maxSteps := 400000) -dsimp -implicitDefEqProofs (disch := first | exact TrueB.mk rfl | omega) only [go_sem, hxl, q3, htk, hle, ht, hle3, hw, htk2, hzl, hlz, hsp, List.length_replicate, Nat.sub_zero]
        first | exact rfl | done
    | true =>
      refine Runs.of Tryd.func30 rfl (by simp [Tryd.ntmps30]) ?_
      simp (maxSteps := 400000) -dsimp -implicitDefEqProofs (disch := first | exact TrueB.mk rfl | omega) only [go_sem, Tryd.ntmps30, hsl]
      first | refine wpAct_callS [0, 1, 2] (ix) rfl rfl rfl rfl rfl rfl rfl rfl rfl rfl ?_ | done
      simp (maxSteps := 400000) -dsimp -implicitDefEqProofs (disch := first | exact TrueB.mk rfl | omega) only [go_sem, hnj]
      refine wpLoop_ind (α := Nat × Nat × List S2)
        (fun x => ⟨[(0, .row 0 S.length), (1, .clo 32 [.ptr 1 0, .ptr 2 0]), (5, .pure true (.int .i64 (x.1 : Nat))), (6, .pure true (.int .i64 (x.2.1 : Nat)))], [(0, .row false 2 0 (stepsV x.2.2)), (1, boxA false b), (2, confO true cf tm)]⟩)
        (fun x => x.1 < x.2.1 ∧ x.2.1 ≤ S.length ∧ x.2.2.length = S.length ∧ x.2.2.take x.1 = (S.take x.2.1).filter (canB cf tm b) ∧ x.2.2.drop x.2.1 = S.drop x.2.1) (fun x => S.length - x.2.1) ?_ (j0, j0 + 1, S) ⟨by simp, by simp only; omega, rfl, hfil1.symm, rfl⟩ rfl
      rintro ⟨i, j, xs⟩ ⟨q1, q2, q3, q4, q5⟩
      simp only at q1 q2 q3 q4 q5 ⊢
      unfold boxA boxW confO
      have hxl := stepsV_length xs
      rcases Classical.em (j < S.length) with hlt | hge
      · have hltx : j < xs.length := by omega
        have g1 := steps_at hltx
        have hxj : xs[j] = S[j] := by
          have : (xs.drop j)[0]? = (S.drop j)[0]? := by rw [q5]
          simpa [hlt, hltx] using this
        rw [hxj] at g1
        have hft := filter_take (c := canB cf tm b) hlt
        cases hcan : canB cf tm b S[j] with
        | false =>
          have cc := fun mx => cl S[j] mx false hcan
          rw [hcan] at hft
          simp only [Bool.false_eq_true, if_false, List.append_nil] at hft
          generalize S[j] = st at *
          unfold sV at *
          simp (maxSteps := 400000) -dsimp -implicitDefEqProofs (disch := first | exact TrueB.mk rfl | omega) only [go_sem, g1, hxl, q3]
          first | refine wpAct_callS [1, 2] (cc _) rfl rfl rfl rfl rfl rfl rfl rfl rfl rfl ?_ | done
          simp (maxSteps := 400000) -dsimp -implicitDefEqProofs (disch := first | exact TrueB.mk rfl | omega) only [go_sem]
          refine again_mk ⟨(i, j + 1, xs), ⟨Nat.lt_succ_of_lt q1, hlt, q3, q4.trans hft.symm, by rw [← List.drop_drop, q5, List.drop_drop]⟩, by simp only; omega, ?_⟩
          rfl
        | true =>
          have cc := fun mx => cl S[j] mx true hcan
          rw [hcan, if_pos rfl] at hft
          have hset := stepsV_set xs i S[j]
          have g2 := steps_at (l := xs) (i := i) (by omega)
          have p4 : (xs.set i S[j]).take (i + 1) = (S.take (j + 1)).filter (canB cf tm b) := by
            rw [hft, ← q4, List.take_set, List.take_succ_eq_append_getElem (by omega : i < xs.length), List.set_append_right _ _ (by rw [List.length_take]; omega)]
            simp [List.length_take, Nat.min_eq_left (by omega : i ≤ xs.length)]
          have p5 : (xs.set i S[j]).drop (j + 1) = S.drop (j + 1) := by
            rw [List.drop_set_of_lt (by omega), ← List.drop_drop, q5, List.drop_drop]
          have hsl2 : (xs.set i S[j]).length = S.length := by rw [List.length_set]; exact q3
          generalize S[j] = st at *
          unfold sV at *
          simp (maxSteps := 400000) -dsimp -implicitDefEqProofs (disch := first | exact TrueB.mk rfl | omega) only [go_sem, g1, hxl, q3]
          first | refine wpAct_callS [1, 2] (cc _) rfl rfl rfl rfl rfl rfl rfl rfl rfl rfl ?_ | done
          simp (maxSteps := 400000) -dsimp -implicitDefEqProofs (disch := first | exact TrueB.mk rfl | omega) only [go_sem, g2, hxl, q3, hset]
          refine again_mk ⟨(i + 1, j + 1, xs.set i st), ⟨Nat.succ_lt_succ q1, hlt, hsl2, p4, p5⟩, by simp only; omega, ?_⟩
          rfl
      · obtain rfl : j = S.length := by omega
        rw [List.take_length] at q4
        have hfl : (S.filter (canB cf tm b)).length = i := by rw [← q4, List.length_take]; omega
        have htk := stepsV_take xs i
        rw [q4] at htk
        generalize S.filter (canB cf tm b) = Z at *
        subst hfl
        have hw := allW_app Z (S.length - Z.length)
        have hzl := stepsV_length Z
        have htk2 : (stepsV Z ++ List.replicate (S.length - Z.length) (PV.agg [.int .i64 0, .int .i64 0])).take Z.length = stepsV Z := by rw [List.take_append_of_le_length (by omega), List.take_of_length_le (by omega)]
        have hzs : Z.length ≤ S.length := by omega
        have hle : S.length ≤ (stepsV Z).length + (List.replicate (S.length - Z.length) (PV.agg [.int .i64 0, .int .i64 0])).length := by rw [hzl, List.length_replicate]; omega
        have hle3 : Z.length ≤ (stepsV Z).length + (List.replicate (S.length - Z.length) (PV.agg [.int .i64 0, .int .i64 0])).length := by rw [hzl]; omega
        have ht : (stepsV Z ++ (List.replicate (S.length - Z.length) (PV.agg [.int .i64 0, .int .i64 0]))).take S.length = stepsV Z ++ (List.replicate (S.length - Z.length) (PV.agg [.int .i64 0, .int .i64 0])) := List.take_of_length_le (by rw [List.length_append, hzl, List.length_replicate]; omega)
        have hlz : Z.length + (S.length - Z.length) = S.length := by omega
        have hsp : 0 < S.length := by omega
        simp (maxSteps := 400000) -dsimp -implicitDefEqProofs (disch := first | exact TrueB.mk rfl | omega) only [go_sem, hxl, q3, htk, hle, ht, hle3, hw, htk2, hzl, hlz, hsp, List.length_replicate, Nat.sub_zero]
        first | exact rfl | done
  | true =>
    cases m with
    | false =>
      refine Runs.of Tryd.func30 rfl (by simp [Tryd.ntmps30]) ?_
      simp (maxSteps := 400000) -dsimp -implicitDefEqProofs (disch := first | exact TrueB.mk rfl | omega) only [go_sem, Tryd.ntmps30, hsl]
      first | refine wpAct_callS [0, 1, 2] (ix) rfl rfl rfl rfl rfl rfl rfl rfl rfl rfl ?_ | done
      simp (maxSteps := 400000) -dsimp -implicitDefEqProofs (disch := first | exact TrueB.mk rfl | omega) only [go_sem, hnj]
      refine wpLoop_ind (α := Nat × Nat × List S2)
        (fun x => ⟨[(0, .row 0 S.length), (1, .clo 32 [.ptr 1 0, .ptr 2 0]), (5, .pure true (.int .i64 (x.1 : Nat))), (6, .pure true (.int .i64 (x.2.1 : Nat)))], [(0, .row false 2 0 (stepsV x.2.2)), (1, boxA true b), (2, confO false cf tm)]⟩)
        (fun x => x.1 < x.2.1 ∧ x.2.1 ≤ S.length ∧ x.2.2.length = S.length ∧ x.2.2.take x.1 = (S.take x.2.1).filter (canB cf tm b) ∧ x.2.2.drop x.2.1 = S.drop x.2.1) (fun x => S.length - x.2.1) ?_ (j0, j0 + 1, S) ⟨by simp, by simp only; omega, rfl, hfil1.symm, rfl⟩ rfl
      rintro ⟨i, j, xs⟩ ⟨q1, q2, q3, q4, q5⟩
      simp only at q1 q2 q3 q4 q5 ⊢
      unfold boxA boxW confO
      have hxl := stepsV_length xs
      rcases Classical.em (j < S.length) with hlt | hge
      · have hltx : j < xs.length := by omega
        have g1 := steps_at hltx
        have hxj : xs[j] = S[j] := by
          have : (xs.drop j)[0]? = (S.drop j)[0]? := by rw [q5]
          simpa [hlt, hltx] using this
        rw [hxj] at g1
        have hft := filter_take (c := canB cf tm b) hlt
        cases hcan : canB cf tm b S[j] with
        | false =>
          have cc := fun mx => cl S[j] mx false hcan
          rw [hcan] at hft
          simp only [Bool.false_eq_true, if_false, List.append_nil] at hft
          generalize S[j] = st at *
          unfold sV at *
          simp (maxSteps := 400000) -dsimp -implicitDefEqProofs (disch := first | exact TrueB.mk rfl | omega) only [go_sem, g1, hxl, q3]
          first | refine wpAct_callS [1, 2] (cc _) rfl rfl rfl rfl rfl rfl rfl rfl rfl rfl ?_ | done
          simp (maxSteps := 400000) -dsimp -implicitDefEqProofs (disch := first | exact TrueB.mk rfl | omega) only [go_sem]
          refine again_mk ⟨(i, j + 1, xs), ⟨Nat.lt_succ_of_lt q1, hlt, q3, q4.trans hft.symm, by rw [← List.drop_drop, q5, List.drop_drop]⟩, by simp only; omega, ?_⟩
          rfl
        | true =>
          have cc := fun mx => cl S[j] mx true hcan
          rw [hcan, if_pos rfl] at hft
          have hset := stepsV_set xs i S[j]
          have g2 := steps_at (l := xs) (i := i) (by omega)
          have p4 : (xs.set i S[j]).take (i + 1) = (S.take (j + 1)).filter (canB cf tm b) := by
            rw [hft, ← q4, List.take_set, List.take_succ_eq_append_getElem (by omega : i < xs.length), List.set_append_right _ _ (by rw [List.length_take]; omega)]
            simp [List.length_take, Nat.min_eq_left (by omega : i ≤ xs.length)]
          have p5 : (xs.set i S[j]).drop (j + 1) = S.drop (j + 1) := by
            rw [List.drop_set_of_lt (by omega), ← List.drop_drop, q5, List.drop_drop]
          have hsl2 : (xs.set i S[j]).length = S.length := by rw [List.length_set]; exact q3
          generalize S[j] = st at *
          unfold sV at *
          simp (maxSteps := 400000) -dsimp -implicitDefEqProofs (disch := first | exact TrueB.mk rfl | omega) only [go_sem, g1, hxl, q3]
          first | refine wpAct_callS [1, 2] (cc _) rfl rfl rfl rfl rfl rfl rfl rfl rfl rfl ?_ | done
          simp (maxSteps := 400000) -dsimp -implicitDefEqProofs (disch := first | exact TrueB.mk rfl | omega) only [go_sem, g2, hxl, q3, hset]
          refine again_mk ⟨(i + 1, j + 1, xs.set i st), ⟨Nat.succ_lt_succ q1, hlt, hsl2, p4, p5⟩, by simp only; omega, ?_⟩
          rfl
      · obtain rfl : j = S.length := by omega
        rw [List.take_length] at q4
        have hfl : (S.filter (canB cf tm b)).length = i := by rw [← q4, List.length_take]; omega
        have htk := stepsV_take xs i
        rw [q4] at htk
        generalize S.filter (canB cf tm b) = Z at *
        subst hfl
        have hw := allW_app Z (S.length - Z.length)
        have hzl := stepsV_length Z
        have htk2 : (stepsV Z ++ List.replicate (S.length - Z.length) (PV.agg [.int .i64 0, .int .i64 0])).take Z.length = stepsV Z := by rw [List.take_append_of_le_length (by omega), List.take_of_length_le (by omega)]
        have hzs : Z.length ≤ S.length := by omega
        have hle : S.length ≤ (stepsV Z).length + (List.replicate (S.length - Z.length) (PV.agg [.int .i64 0, .int .i64 0])).length := by rw [hzl, List.length_replicate]; omega
        have hle3 : Z.length ≤ (stepsV Z).length + (List.replicate (S.length - Z.length) (PV.agg [.int .i64 0, .int .i64 0])).length := by rw [hzl]; omega
        have ht : (stepsV Z ++ (List.replicate (S.length - Z.length) (PV.agg [.int .i64 0, .int .i64 0]))).take S.length = stepsV Z ++ (List.replicate (S.length - Z.length) (PV.agg [.int .i64 0, .int .i64 0])) := List.take_of_length_le (by rw [List.length_append, hzl, List.length_replicate]; omega)
        have hlz : Z.length + (S.length - Z.length) = S.length := by omega
        have hsp : 0 < S.length := by omega
        simp (maxSteps := 400000) -dsimp -implicitDefEqProofs (disch := first | exact TrueB.mk rfl | omega) only [go_sem, hxl, q3, htk, hle, ht, hle3, hw, htk2, hzl, hlz, hsp, List.length_replicate, Nat.sub_zero]
        first | exact rfl | done
    | true =>
      refine Runs.of Tryd.func30 rfl (by simp [Tryd.ntmps30]) ?_
      simp (maxSteps := 400000) -dsimp -implicitDefEqProofs (disch := first | exact TrueB.mk rfl | omega) only [go_sem, Tryd.ntmps30, hsl]
      first | refine wpAct_callS [0, 1, 2] (ix) rfl rfl rfl rfl rfl rfl rfl rfl rfl rfl ?_ | done
      simp (maxSteps := 400000) -dsimp -implicitDefEqProofs (disch := first | exact TrueB.mk rfl | omega) only [go_sem, hnj]
      refine wpLoop_ind (α := Nat × Nat × List S2)
        (fun x => ⟨[(0, .row 0 S.length), (1, .clo 32 [.ptr 1 0, .ptr 2 0]), (5, .pure true (.int .i64 (x.1 : Nat))), (6, .pure true (.int .i64 (x.2.1 : Nat)))], [(0, .row false 2 0 (stepsV x.2.2)), (1, boxA true b), (2, confO true cf tm)]⟩)
        (fun x => x.1 < x.2.1 ∧ x.2.1 ≤ S.length ∧ x.2.2.length = S.length ∧ x.2.2.take x.1 = (S.take x.2.1).filter (canB cf tm b) ∧ x.2.2.drop x.2.1 = S.drop x.2.1) (fun x => S.length - x.2.1) ?_ (j0, j0 + 1, S) ⟨by simp, by simp only; omega, rfl, hfil1.symm, rfl⟩ rfl
      rintro ⟨i, j, xs⟩ ⟨q1, q2, q3, q4, q5⟩
      simp only at q1 q2 q3 q4 q5 ⊢
      unfold boxA boxW confO
      have hxl := stepsV_length xs
      rcases Classical.em (j < S.length) with hlt | hge
      · have hltx : j < xs.length := by omega
        have g1 := steps_at hltx
        have hxj : xs[j] = S[j] := by
          have : (xs.drop j)[0]? = (S.drop j)[0]? := by rw [q5]
          simpa [hlt, hltx] using this
        rw [hxj] at g1
        have hft := filter_take (c := canB cf tm b) hlt
        cases hcan : canB cf tm b S[j] with
        | false =>
          have cc := fun mx => cl S[j] mx false hcan
          rw [hcan] at hft
          simp only [Bool.false_eq_true, if_false, List.append_nil] at hft
          generalize S[j] = st at *
          unfold sV at *
          simp (maxSteps := 400000) -dsimp -implicitDefEqProofs (disch := first | exact TrueB.mk rfl | omega) only [go_sem, g1, hxl, q3]
          first | refine wpAct_callS [1, 2] (cc _) rfl rfl rfl rfl rfl rfl rfl rfl rfl rfl ?_ | done
          simp (maxSteps := 400000) -dsimp -implicitDefEqProofs (disch := first | exact TrueB.mk rfl | omega) only [go_sem]
          refine again_mk ⟨(i, j + 1, xs), ⟨Nat.lt_succ_of_lt q1, hlt, q3, q4.trans hft.symm, by rw [← List.drop_drop, q5, List.drop_drop]⟩, by simp only; omega, ?_⟩
          rfl
        | true =>
          have cc := fun mx => cl S[j] mx true hcan
          rw [hcan, if_pos rfl] at hft
          have hset := stepsV_set xs i S[j]
          have g2 := steps_at (l := xs) (i := i) (by omega)
          have p4 : (xs.set i S[j]).take (i + 1) = (S.take (j + 1)).filter (canB cf tm b) := by
            rw [hft, ← q4, List.take_set, List.take_succ_eq_append_getElem (by omega : i < xs.length), List.set_append_right _ _ (by rw [List.length_take]; omega)]
            simp [List.length_take, Nat.min_eq_left (by omega : i ≤ xs.length)]
          have p5 : (xs.set i S[j]).drop (j + 1) = S.drop (j + 1) := by
            rw [List.drop_set_of_lt (by omega), ← List.drop_drop, q5, List.drop_drop]
          have hsl2 : (xs.set i S[j]).length = S.length := by rw [List.length_set]; exact q3
          generalize S[j] = st at *
          unfold sV at *
          simp (maxSteps := 400000) -dsimp -implicitDefEqProofs (disch := first | exact TrueB.mk rfl | omega) only [go_sem, g1, hxl, q3]
          first | refine wpAct_callS [1, 2] (cc _) rfl rfl rfl rfl rfl rfl rfl rfl rfl rfl ?_ | done
          simp (maxSteps := 400000) -dsimp -implicitDefEqProofs (disch := first | exact TrueB.mk rfl | omega) only [go_sem, g2, hxl, q3, hset]
          refine again_mk ⟨(i + 1, j + 1, xs.set i st), ⟨Nat.succ_lt_succ q1, hlt, hsl2, p4, p5⟩, by simp only; omega, ?_⟩
          rfl
      · obtain rfl : j = S.length := by omega
        rw [List.take_length] at q4
        have hfl : (S.filter (canB cf tm b)).length = i := by rw [← q4, List.length_take]; omega
        have htk := stepsV_take xs i
        rw [q4] at htk
        generalize S.filter (canB cf tm b) = Z at *
        subst hfl
        have hw := allW_app Z (S.length - Z.length)
        have hzl := stepsV_length Z
        have htk2 : (stepsV Z ++ List.replicate (S.length - Z.length) (PV.agg [.int .i64 0, .int .i64 0])).take Z.length = stepsV Z := by rw [List.take_append_of_le_length (by omega), List.take_of_length_le (by omega)]
        have hzs : Z.length ≤ S.length := by omega
        have hle : S.length ≤ (stepsV Z).length + (List.replicate (S.length - Z.length) (PV.agg [.int .i64 0, .int .i64 0])).length := by rw [hzl, List.length_replicate]; omega
        have hle3 : Z.length ≤ (stepsV Z).length + (List.replicate (S.length - Z.length) (PV.agg [.int .i64 0, .int .i64 0])).length := by rw [hzl]; omega
        have ht : (stepsV Z ++ (List.replicate (S.length - Z.length) (PV.agg [.int .i64 0, .int .i64 0]))).take S.length = stepsV Z ++ (List.replicate (S.length - Z.length) (PV.agg [.int .i64 0, .int .i64 0])) := List.take_of_length_le (by rw [List.length_append, hzl, List.length_replicate]; omega)
        have hlz : Z.length + (S.length - Z.length) = S.length := by omega
        have hsp : 0 < S.length := by omega
        simp (maxSteps := 400000) -dsimp -implicitDefEqProofs (disch := first | exact TrueB.mk rfl | omega) only [go_sem, hxl, q3, htk, hle, ht, hle3, hw, htk2, hzl, hlz, hsp, List.length_replicate, Nat.sub_zero]
        first | exact rfl | done

def all48 : List S2 := [49185, 32801, 32855].flatMap fun p => (List.range 16).map fun (e : Nat) => (p, (e : Int) + 1)
theorem all48_length : all48.length = 48 := by decide
theorem all_any : Runs Tryd.prog env 31 [.pure true (.int .i64 0), .pure true (.int .i64 3)] [] (.row 0 48) [(0, .row true 2 0 (stepsV all48))] := ⟨400, by kernel_rfl⟩
def upB : Bool := (List.range 10).all fun s => (cellT s 1).isNone || (cellT s 2).isNone
theorem up_ok : upB = true := by kernel_rfl
theorem up_down (s r : Int) : stepOut s 1 r = none ∨ stepOut s 2 r = none := by
  have key : cellI s 1 = none ∨ cellI s 2 = none := by
    by_cases h : 0 ≤ s ∧ s ≤ 9
    · have := List.all_eq_true.1 up_ok s.toNat (List.mem_range.2 (by omega))
      unfold cellI
      rw [if_pos (by omega), if_pos (by omega)]
      rw [Bool.or_eq_true, Option.isNone_iff_eq_none, Option.isNone_iff_eq_none] at this
      exact this
    · left
      unfold cellI
      rw [if_neg (by omega)]
  unfold stepOut
  rcases key with h | h
  · left; rw [h]
  · right; rw [h]
theorem first_no (c : S2 → Bool) : ∀ (S : List S2), (∃ x ∈ S, c x = false) → ∃ (j : Nat) (hj : j < S.length), c S[j] = false ∧ ∀ i (h : i < S.length), i < j → c S[i] = true := by
  intro S
  induction S with
  | nil => rintro ⟨x, hx, _⟩; cases hx
  | cons y t ih =>
    rintro ⟨x, hx, hc⟩
    by_cases hy : c y = false
    · exact ⟨0, by simp, hy, fun i h hi => by omega⟩
    · rcases List.mem_cons.1 hx with rfl | hx
      · exact absurd hc hy
      · obtain ⟨j, hj, h1, h2⟩ := ih ⟨x, hx, hc⟩
        refine ⟨j + 1, by simp; omega, by simpa using h1, fun i h hi => ?_⟩
        cases i with
        | zero => simpa using hy
        | succ i => simpa using h2 i (by simp at h; omega) (by omega)
theorem some_no (cf tm : Int) (b : Bn) : ∃ x ∈ all48, canB cf tm b x = false := by
  obtain ⟨⟨s, r, q⟩, y, z⟩ := b
  rcases up_down s r with h | h
  · refine ⟨(49185, 1), by decide, ?_⟩
    simp [canB, stepL, hapL, h, mayP]
  · refine ⟨(49185, 2), by decide, ?_⟩
    simp [canB, stepL, hapL, h, mayP]
def canL (cf tm : Int) (b : Bn) : List S2 := all48.filter (canB cf tm b)
def CanV (cf tm : Int) : Option (Bn × W3 × List C3) → SV
  | none => .row 0 0
  | some (b, _) => .hd 0 48 (canL cf tm b).length
def CanS (cf tm : Int) : Option (Bn × W3 × List C3) → Store
  | none => [(0, .row true 0 0 [])]
  | some (b, _) => [(0, .row false 2 0 (stepsV (canL cf tm b) ++ List.replicate (48 - (canL cf tm b).length) (.agg [.int .i64 0, .int .i64 0])))]
theorem playL_ok {cf tm : Int} (h1 : 1 ≤ cf ∧ cf ≤ 255) (h2 : 1 ≤ tm ∧ tm ≤ 255) : ∀ (l : List S2) (b : Bn) (w : W3) (L : List C3) {b' : Bn} {w' : W3} {L' : List C3}, okB b → playL cf tm l b w L = some (b', w', L') → okB b' ∧ L.length + l.length ≤ L'.length ∧ L'.length ≤ L.length + 3 * l.length := by
  intro l
  induction l with
  | nil =>
    intro b w L b' w' L' hb h
    simp only [playL, Option.some.injEq, Prod.mk.injEq] at h
    obtain ⟨rfl, rfl, rfl⟩ := h
    exact ⟨hb, by simp, by simp⟩
  | cons x t ih =>
    intro b w L b' w' L' hb h
    simp only [playL] at h
    split at h
    · cases h
    · rename_i b1 l1 t0 t1 t2 hs
      have hk := stepL_ok h1 h2 hb hs
      obtain ⟨q1, q2, q3⟩ := ih _ _ _ hk.1 h
      rw [List.length_append] at q2 q3
      exact ⟨q1, by rw [List.length_cons]; omega, by rw [List.length_cons]; omega⟩
theorem okZ : okB zeroB := ⟨⟨by decide, by decide⟩, ⟨by decide, by decide⟩, ⟨by decide, by decide⟩⟩

set_option maxHeartbeats 64000000 in
theorem Can_any {cf tm : Int} (h1 : 1 ≤ cf ∧ cf ≤ 255) (h2 : 1 ≤ tm ∧ tm ≤ 255) (l : List S2) (hl : l.length ≤ 100000) (m m' : Bool) :
    Runs Tryd.prog env 17 [.pure m (confV cf tm 1), .pure m' (.sl (stepsV l))] [] (CanV cf tm (playL cf tm l zeroB (true, true, true) [])) (CanS cf tm (playL cf tm l zeroB (true, true, true) [])) := by
  have pp := fun m m' => play_any h1 h2 l hl m m'
  have po := fun b' w' L' => playL_ok h1 h2 l zeroB (true, true, true) [] (b' := b') (w' := w') (L' := L') okZ
  generalize playL cf tm l zeroB (true, true, true) [] = R at *
  cases R with
  | none =>
    unfold playV playS benchV at pp
    unfold CanV CanS confV at *
    refine Runs.of Tryd.func17 rfl (by simp [Tryd.ntmps17]) ?_
    simp (maxSteps := 400000) -dsimp -implicitDefEqProofs (disch := first | exact TrueB.mk rfl | omega) only [go_sem, Tryd.ntmps17]
    refine wpAct_callG (pp _ _) rfl rfl rfl rfl rfl rfl rfl rfl rfl ?_
    simp (maxSteps := 400000) -dsimp -implicitDefEqProofs (disch := first | exact TrueB.mk rfl | omega) only [go_sem]
    first | exact rfl | done
  | some q =>
    obtain ⟨b, w, L⟩ := q
    have nw := newV_w w b L.length true
    have hb := (po b w L rfl).1
    obtain ⟨j, hj, q1, q2⟩ := first_no (canB cf tm b) all48 (some_no cf tm b)
    have dd := fun f m => delete_any h1 h2 hb all48 (by rw [all48_length]; omega) hj q1 q2 f m
    have h48 := all48_length
    have aa := all_any
    simp only [h48] at dd
    simp only [playV, playS, benchV] at pp
    simp only [CanV, CanS, canL]
    unfold benchV at nw
    generalize (List.filter (canB cf tm b) all48) = Z at *
    generalize stepsV all48 = A at *
    unfold memC boxA boxW confO at dd
    unfold confV at *
    clear po q1 q2 hj
    generalize wm w = f at *
    cases f <;> cases m
    all_goals
      refine Runs.of Tryd.func17 rfl (by simp [Tryd.ntmps17]) ?_
      simp (maxSteps := 400000) -dsimp -implicitDefEqProofs (disch := first | exact TrueB.mk rfl | omega) only [go_sem, Tryd.ntmps17]
      refine wpAct_callG (pp _ _) rfl rfl rfl rfl rfl rfl nw rfl rfl ?_
      simp (maxSteps := 400000) -dsimp -implicitDefEqProofs (disch := first | exact TrueB.mk rfl | omega) only [go_sem]
      first | refine wpAct_callG (aa) rfl rfl rfl rfl rfl rfl rfl rfl rfl ?_ | done
      simp (maxSteps := 400000) -dsimp -implicitDefEqProofs (disch := first | exact TrueB.mk rfl | omega) only [go_sem]
      first | refine wpAct_callS [272, 80, 32] (dd _ _) rfl rfl rfl rfl rfl rfl rfl rfl rfl rfl ?_ | done
      simp (maxSteps := 400000) -dsimp -implicitDefEqProofs (disch := first | exact TrueB.mk rfl | omega) only [go_sem]
      first | exact rfl | done

end Go.Proofs.YticdhmcbooabaaaDoor
