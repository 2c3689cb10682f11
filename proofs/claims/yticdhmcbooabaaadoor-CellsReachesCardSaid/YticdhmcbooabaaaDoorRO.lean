/- YticdhmcbooabaaaDoorRO: parts of the proof of CellsReaches. No claim. -/
import Derived.Test.YticdhmcbooabaaaDoorQS
import Derived.Test.YticdhmcbooabaaaDoorWA
import Derived.Test.YticdhmcbooabaaaDoorD7
import Derived.Test.YticdhmcbooabaaaDoorUA
set_option linter.unusedVariables false
set_option linter.unusedSimpArgs false
set_option maxRecDepth 1000000
namespace Go.Proofs.YticdhmcbooabaaaDoor
open Go Go.Proofs.YticdhmcbooabaaaDoor.V

theorem addC_len (l : List C3) (c : C3) : l.length ≤ (addC l c).length := by
  unfold addC
  split
  · exact Nat.le_refl _
  · rw [List.length_append]; omega
theorem rnd_mono {cf tm : Int} {i : Nat} {p : Int} {b : T3} {e : Int} {s s' : S3} (h : rnd cf tm i p b e s = some s') : s.1.length ≤ s'.1.length := by
  unfold rnd at h
  split at h
  · cases h; exact Nat.le_refl _
  · split at h
    · cases h
    · cases h; exact Nat.le_refl _
    · simp only at h
      split at h
      · cases h; exact addC_len _ _
      · split at h
        · cases h; exact addC_len _ _
        · cases h
theorem inn_mono {cf tm : Int} {i : Nat} {p : Int} {b : T3} : ∀ (k : Nat) {s s' : S3}, inn cf tm i p b k s = some s' → s.1.length ≤ s'.1.length := by
  intro k
  induction k with
  | zero => intro s s' h; simp only [inn] at h; cases h; exact Nat.le_refl _
  | succ k ih =>
    intro s s' h
    simp only [inn] at h
    split at h
    · cases h
    · rename_i s1 hr
      exact Nat.le_trans (rnd_mono hr) (ih h)
theorem outs_mono {cf tm : Int} {i : Nat} {p : Int} : ∀ (f : Nat) {s : S3} {G : List C3}, outs cf tm i p f s = some G → s.1.length ≤ G.length := by
  intro f
  induction f with
  | zero => intro s G h; cases h
  | succ f ih =>
    intro s G h
    simp only [outs] at h
    split at h
    · cases h; exact Nat.le_refl _
    · split at h
      · cases h
      · rename_i s1 hr
        have h1 := inn_mono _ hr
        simp only at h1
        exact Nat.le_trans h1 (ih h)
theorem addC_up (l : List C3) (c : C3) : (addC l c).length ≤ l.length + 1 := by
  unfold addC
  split
  · omega
  · rw [List.length_append]; exact Nat.le_refl _
theorem rnd_up {cf tm : Int} {i : Nat} {p : Int} {b : T3} {e : Int} {s s' : S3} (h : rnd cf tm i p b e s = some s') : s'.1.length ≤ s.1.length + 1 := by
  unfold rnd at h
  split at h
  · cases h; omega
  · split at h
    · cases h
    · cases h; omega
    · simp only at h
      split at h
      · cases h; exact addC_up _ _
      · split at h
        · cases h; exact addC_up _ _
        · cases h
theorem inn_up {cf tm : Int} {i : Nat} {p : Int} {b : T3} : ∀ (k : Nat) {s s' : S3}, inn cf tm i p b k s = some s' → s'.1.length ≤ s.1.length + k := by
  intro k
  induction k with
  | zero => intro s s' h; simp only [inn] at h; cases h; exact Nat.le_refl _
  | succ k ih =>
    intro s s' h
    simp only [inn] at h
    split at h
    · cases h
    · rename_i s1 hr
      have h1 := rnd_up hr
      have h2 := ih h
      omega
theorem outs_up {cf tm : Int} {i : Nat} {p : Int} : ∀ (f : Nat) {s : S3} {G : List C3}, outs cf tm i p f s = some G → G.length ≤ s.1.length + 16 * f := by
  intro f
  induction f with
  | zero => intro s G h; cases h
  | succ f ih =>
    intro s G h
    simp only [outs] at h
    split at h
    · cases h; omega
    · split at h
      · cases h
      · rename_i s1 hr
        have h1 := inn_up _ hr
        have h2 := ih h
        simp only at h1
        omega
/-- A round of the search, told of an automaton's events. -/
theorem rndL {cf tm : Int} {i : Nat} {p a r : Int} {s : Bool} {e : Int} {F : List C3} {Sn T : List T3} {s1 : S3} (hs : skip3 i e s = false) (h : rnd cf tm i p (a, r, s) e (F, Sn, T) = some s1) :
    okL (a, r, s) ∧ ((hapL cf tm (a, r, s) e = none ∧ s1 = (F, Sn, T)) ∨ ∃ t, hapL cf tm (a, r, s) e = some t ∧ ((t ∈ Sn ∧ s1 = (addC F (p, a, e), Sn, T)) ∨ (t ∉ Sn ∧ T.length ≤ 100000 ∧ s1 = (addC F (p, a, e), Sn ++ [t], T ++ [t])))) := by
  have hs' : skip3 i e ((a, r, s) : T3).2.2 = false := hs
  unfold rnd at h
  rw [if_neg (by rw [hs']; simp)] at h
  split at h
  · cases h
  · rename_i ho
    cases h
    unfold hapO at ho
    split at ho
    · rename_i hr
      refine ⟨hr, .inl ⟨?_, rfl⟩⟩
      split at ho
      · rename_i hst
        unfold hapL
        simp only [hst]
      · split at ho <;> cases ho
    · cases ho
  · rename_i n x y ho
    obtain ⟨q1, l, q2, q3, rfl, rfl⟩ := hapO_yes ho
    refine ⟨q1, .inr ⟨(((n : Nat) : Int), restA cf tm l r, s || hasN l 7), ?_, ?_⟩⟩
    · unfold hapL
      simp only at q2
      simp only [q2]
    · simp only at h
      split at h
      · rename_i hm
        cases h
        exact .inl ⟨hm, rfl⟩
      · rename_i hm
        split at h
        · rename_i hl
          cases h
          exact .inr ⟨hm, hl, rfl⟩
        · cases h

/-- A loop of a code, by its head's region. -/
def findLoop (r : Nat) : Code → Option Code
  | .seq a b => match findLoop r a with
    | some c => some c
    | none => findLoop r b
  | .cond _ a b => match findLoop r a with
    | some c => some c
    | none => findLoop r b
  | .block _ a => findLoop r a
  | .loop a => if firstRegion a = r then some a else findLoop r a
  | _ => none
theorem old_step (W : List T3) (t : T3) (j : Nat) (h : j < W.length) : decide (t ∈ W.take (j + 1)) = (decide (t ∈ W.take j) || decide (W[j] = t)) := by
  rw [Bool.eq_iff_iff, List.take_succ_eq_append_getElem h]
  simp only [List.mem_append, List.mem_singleton, decide_eq_true_eq, Bool.or_eq_true]
  constructor
  · rintro (h | h)
    · exact .inl h
    · exact .inr h.symm
  · rintro (h | h)
    · exact .inl h
    · exact .inr h.symm

set_option maxHeartbeats 64000000 in
theorem old_0 {c : Code} (hcode : findLoop 20 (Tryd.f20.body.getD .skip) = some c) {cf tm : Int} {m q : Bool} {k : Nat} {e a r : Int} {s : Bool} {W : List T3} (hW : W.length ≤ 300000) {nl nf zl zf ll lf l2 : Nat} {xl xf : List PV} {o : Bool} (ho : o = decide (((a, r, s) : T3) ∈ W)) {sl : Slots} {S : Store} {Q : Ex → Slots → Store → Prop}
    (hc : canon 0 1936 (env.ann 20 (firstRegion c)) ⟨sl, S⟩ = ⟨[(1, .ptr 1936 0), (3, .row 1937 nl), (4, .pure true (.int .i64 0)), (5, .row 1938 W.length), (6, .row 1939 nf), (7, .pure true (.int .i64 (k : Nat))), (8, .pure true (.int .i64 e)), (9, .ptr 1940 0), (12, .pure true (.bool false)), (13, .pure true (.int .i64 0))], [(1936, .box [.pure m (.int .i64 cf), .pure m (.int .i64 tm), .pure m (.int .i64 1), .pure m (.int .i64 0), .pure m (.str []), .pure m (.str []), .pure m (.int .i64 0), .pure m (.int .u32 0), .pure m (.bool false)]), (1937, .row true zl ll xl), (1938, .row true 9 l2 (W.map bV0)), (1939, .row true zf lf xf), (1940, .box [.pure q (.int .i64 a), .pure q (.int .i64 r), .pure q (.int .i64 0), .pure q (.int .i64 0), .pure q (.int .i64 0), .pure q (.int .i64 0), .pure q (.bool s), .pure q (.bool false), .pure q (.bool false)])]⟩)
    (hQ : Q (.exit 6) [(82, .pure true (.bool false)), (81, .pure true (.int .i64 (W.length : Nat))), (80, .row 1938 W.length), (79, .pure true (.int .i64 (W.length : Nat))), (1, .ptr 1936 0), (3, .row 1937 nl), (4, .pure true (.int .i64 0)), (5, .row 1938 W.length), (6, .row 1939 nf), (7, .pure true (.int .i64 (k : Nat))), (8, .pure true (.int .i64 e)), (9, .ptr 1940 0), (12, .pure true (.bool o)), (13, .pure true (.int .i64 (W.length : Nat)))] [(1936, .box [.pure m (.int .i64 cf), .pure m (.int .i64 tm), .pure m (.int .i64 1), .pure m (.int .i64 0), .pure m (.str []), .pure m (.str []), .pure m (.int .i64 0), .pure m (.int .u32 0), .pure m (.bool false)]), (1937, .row true zl ll xl), (1938, .row true 9 l2 (W.map bV0)), (1939, .row true zf lf xf), (1940, .box [.pure q (.int .i64 a), .pure q (.int .i64 r), .pure q (.int .i64 0), .pure q (.int .i64 0), .pure q (.int .i64 0), .pure q (.int .i64 0), .pure q (.bool s), .pure q (.bool false), .pure q (.bool false)])]) :
    wpLoop Tryd.prog env 0 1936 (env.ann 20) (env.reg 20) c sl S Q := by
  have hl : (W.map bV0).length = W.length := List.length_map ..
  refine wpLoop_ind (α := Nat) (fun j => ⟨[(1, .ptr 1936 0), (3, .row 1937 nl), (4, .pure true (.int .i64 0)), (5, .row 1938 W.length), (6, .row 1939 nf), (7, .pure true (.int .i64 (k : Nat))), (8, .pure true (.int .i64 e)), (9, .ptr 1940 0), (12, .pure true (.bool (decide (((a, r, s) : T3) ∈ W.take j)))), (13, .pure true (.int .i64 (j : Nat)))], [(1936, .box [.pure m (.int .i64 cf), .pure m (.int .i64 tm), .pure m (.int .i64 1), .pure m (.int .i64 0), .pure m (.str []), .pure m (.str []), .pure m (.int .i64 0), .pure m (.int .u32 0), .pure m (.bool false)]), (1937, .row true zl ll xl), (1938, .row true 9 l2 (W.map bV0)), (1939, .row true zf lf xf), (1940, .box [.pure q (.int .i64 a), .pure q (.int .i64 r), .pure q (.int .i64 0), .pure q (.int .i64 0), .pure q (.int .i64 0), .pure q (.int .i64 0), .pure q (.bool s), .pure q (.bool false), .pure q (.bool false)])]⟩)
    (fun j => j ≤ W.length) (fun j => W.length - j) ?_ 0 (Nat.zero_le _) hc
  rintro j hj
  clear hc
  simp only
  have hx : findLoop 20 (Tryd.f20.body.getD .skip) = some _ := rfl
  rw [hx] at hcode
  cases hcode
  rcases Classical.em (j < W.length) with h1 | h1
  · have hst := old_step W (a, r, s) j h1
    have g1 : (W.map bV0)[j]? = some (bV0 W[j]) := by rw [List.getElem?_map, List.getElem?_eq_getElem h1]; rfl
    generalize W[j] = u at *
    obtain ⟨ua, ur, us⟩ := u
    simp only [bV0] at g1
    rw [dec3] at hst
    generalize decide (((a, r, s) : T3) ∈ W.take j) = od at *
    cases od with
    | true =>
      simp (maxSteps := 400000) -dsimp -implicitDefEqProofs (disch := first | exact TrueB.mk rfl | omega) only [go_sem, hl, g1]
      refine again_mk ⟨j + 1, h1, (by omega), ?_⟩
      simp only [hst, Bool.true_or]
      rfl
    | false =>
      simp (maxSteps := 400000) -dsimp -implicitDefEqProofs (disch := first | exact TrueB.mk rfl | omega) only [go_sem, hl, g1]
      refine again_mk ⟨j + 1, h1, (by omega), ?_⟩
      simp only [hst, Bool.false_or]
      rfl
  · obtain rfl : j = W.length := by omega
    rw [List.take_length, ← ho]
    simp (maxSteps := 400000) -dsimp -implicitDefEqProofs (disch := first | exact TrueB.mk rfl | omega) only [go_sem, hl]
    exact hQ

set_option maxHeartbeats 64000000 in
theorem old_1 {c : Code} (hcode : findLoop 20 (Tryd.f20.body.getD .skip) = some c) {cf tm : Int} {m q : Bool} {k : Nat} {e a r : Int} {s : Bool} {W : List T3} (hW : W.length ≤ 300000) {nl nf zl zf ll lf l2 : Nat} {xl xf : List PV} {o : Bool} (ho : o = decide (((a, r, s) : T3) ∈ W)) {sl : Slots} {S : Store} {Q : Ex → Slots → Store → Prop}
    (hc : canon 0 1936 (env.ann 20 (firstRegion c)) ⟨sl, S⟩ = ⟨[(1, .ptr 1936 0), (3, .row 1937 nl), (4, .pure true (.int .i64 1)), (5, .row 1938 W.length), (6, .row 1939 nf), (7, .pure true (.int .i64 (k : Nat))), (8, .pure true (.int .i64 e)), (9, .ptr 1940 0), (12, .pure true (.bool false)), (13, .pure true (.int .i64 0))], [(1936, .box [.pure m (.int .i64 cf), .pure m (.int .i64 tm), .pure m (.int .i64 1), .pure m (.int .i64 0), .pure m (.str []), .pure m (.str []), .pure m (.int .i64 0), .pure m (.int .u32 0), .pure m (.bool false)]), (1937, .row true zl ll xl), (1938, .row true 9 l2 (W.map bV1)), (1939, .row true zf lf xf), (1940, .box [.pure q (.int .i64 0), .pure q (.int .i64 0), .pure q (.int .i64 a), .pure q (.int .i64 r), .pure q (.int .i64 0), .pure q (.int .i64 0), .pure q (.bool false), .pure q (.bool s), .pure q (.bool false)])]⟩)
    (hQ : Q (.exit 6) [(82, .pure true (.bool false)), (81, .pure true (.int .i64 (W.length : Nat))), (80, .row 1938 W.length), (79, .pure true (.int .i64 (W.length : Nat))), (1, .ptr 1936 0), (3, .row 1937 nl), (4, .pure true (.int .i64 1)), (5, .row 1938 W.length), (6, .row 1939 nf), (7, .pure true (.int .i64 (k : Nat))), (8, .pure true (.int .i64 e)), (9, .ptr 1940 0), (12, .pure true (.bool o)), (13, .pure true (.int .i64 (W.length : Nat)))] [(1936, .box [.pure m (.int .i64 cf), .pure m (.int .i64 tm), .pure m (.int .i64 1), .pure m (.int .i64 0), .pure m (.str []), .pure m (.str []), .pure m (.int .i64 0), .pure m (.int .u32 0), .pure m (.bool false)]), (1937, .row true zl ll xl), (1938, .row true 9 l2 (W.map bV1)), (1939, .row true zf lf xf), (1940, .box [.pure q (.int .i64 0), .pure q (.int .i64 0), .pure q (.int .i64 a), .pure q (.int .i64 r), .pure q (.int .i64 0), .pure q (.int .i64 0), .pure q (.bool false), .pure q (.bool s), .pure q (.bool false)])]) :
    wpLoop Tryd.prog env 0 1936 (env.ann 20) (env.reg 20) c sl S Q := by
  have hl : (W.map bV1).length = W.length := List.length_map ..
  refine wpLoop_ind (α := Nat) (fun j => ⟨[(1, .ptr 1936 0), (3, .row 1937 nl), (4, .pure true (.int .i64 1)), (5, .row 1938 W.length), (6, .row 1939 nf), (7, .pure true (.int .i64 (k : Nat))), (8, .pure true (.int .i64 e)), (9, .ptr 1940 0), (12, .pure true (.bool (decide (((a, r, s) : T3) ∈ W.take j)))), (13, .pure true (.int .i64 (j : Nat)))], [(1936, .box [.pure m (.int .i64 cf), .pure m (.int .i64 tm), .pure m (.int .i64 1), .pure m (.int .i64 0), .pure m (.str []), .pure m (.str []), .pure m (.int .i64 0), .pure m (.int .u32 0), .pure m (.bool false)]), (1937, .row true zl ll xl), (1938, .row true 9 l2 (W.map bV1)), (1939, .row true zf lf xf), (1940, .box [.pure q (.int .i64 0), .pure q (.int .i64 0), .pure q (.int .i64 a), .pure q (.int .i64 r), .pure q (.int .i64 0), .pure q (.int .i64 0), .pure q (.bool false), .pure q (.bool s), .pure q (.bool false)])]⟩)
    (fun j => j ≤ W.length) (fun j => W.length - j) ?_ 0 (Nat.zero_le _) hc
  rintro j hj
  clear hc
  simp only
  have hx : findLoop 20 (Tryd.f20.body.getD .skip) = some _ := rfl
  rw [hx] at hcode
  cases hcode
  rcases Classical.em (j < W.length) with h1 | h1
  · have hst := old_step W (a, r, s) j h1
    have g1 : (W.map bV1)[j]? = some (bV1 W[j]) := by rw [List.getElem?_map, List.getElem?_eq_getElem h1]; rfl
    generalize W[j] = u at *
    obtain ⟨ua, ur, us⟩ := u
    simp only [bV1] at g1
    rw [dec3] at hst
    generalize decide (((a, r, s) : T3) ∈ W.take j) = od at *
    cases od with
    | true =>
      simp (maxSteps := 400000) -dsimp -implicitDefEqProofs (disch := first | exact TrueB.mk rfl | omega) only [go_sem, hl, g1]
      refine again_mk ⟨j + 1, h1, (by omega), ?_⟩
      simp only [hst, Bool.true_or]
      rfl
    | false =>
      simp (maxSteps := 400000) -dsimp -implicitDefEqProofs (disch := first | exact TrueB.mk rfl | omega) only [go_sem, hl, g1]
      refine again_mk ⟨j + 1, h1, (by omega), ?_⟩
      simp only [hst, Bool.false_or]
      rfl
  · obtain rfl : j = W.length := by omega
    rw [List.take_length, ← ho]
    simp (maxSteps := 400000) -dsimp -implicitDefEqProofs (disch := first | exact TrueB.mk rfl | omega) only [go_sem, hl]
    exact hQ

set_option maxHeartbeats 64000000 in
theorem old_2 {c : Code} (hcode : findLoop 20 (Tryd.f20.body.getD .skip) = some c) {cf tm : Int} {m q : Bool} {k : Nat} {e a r : Int} {s : Bool} {W : List T3} (hW : W.length ≤ 300000) {nl nf zl zf ll lf l2 : Nat} {xl xf : List PV} {o : Bool} (ho : o = decide (((a, r, s) : T3) ∈ W)) {sl : Slots} {S : Store} {Q : Ex → Slots → Store → Prop}
    (hc : canon 0 1936 (env.ann 20 (firstRegion c)) ⟨sl, S⟩ = ⟨[(1, .ptr 1936 0), (3, .row 1937 nl), (4, .pure true (.int .i64 2)), (5, .row 1938 W.length), (6, .row 1939 nf), (7, .pure true (.int .i64 (k : Nat))), (8, .pure true (.int .i64 e)), (9, .ptr 1940 0), (12, .pure true (.bool false)), (13, .pure true (.int .i64 0))], [(1936, .box [.pure m (.int .i64 cf), .pure m (.int .i64 tm), .pure m (.int .i64 1), .pure m (.int .i64 0), .pure m (.str []), .pure m (.str []), .pure m (.int .i64 0), .pure m (.int .u32 0), .pure m (.bool false)]), (1937, .row true zl ll xl), (1938, .row true 9 l2 (W.map bV2)), (1939, .row true zf lf xf), (1940, .box [.pure q (.int .i64 0), .pure q (.int .i64 0), .pure q (.int .i64 0), .pure q (.int .i64 0), .pure q (.int .i64 a), .pure q (.int .i64 r), .pure q (.bool false), .pure q (.bool false), .pure q (.bool s)])]⟩)
    (hQ : Q (.exit 6) [(82, .pure true (.bool false)), (81, .pure true (.int .i64 (W.length : Nat))), (80, .row 1938 W.length), (79, .pure true (.int .i64 (W.length : Nat))), (1, .ptr 1936 0), (3, .row 1937 nl), (4, .pure true (.int .i64 2)), (5, .row 1938 W.length), (6, .row 1939 nf), (7, .pure true (.int .i64 (k : Nat))), (8, .pure true (.int .i64 e)), (9, .ptr 1940 0), (12, .pure true (.bool o)), (13, .pure true (.int .i64 (W.length : Nat)))] [(1936, .box [.pure m (.int .i64 cf), .pure m (.int .i64 tm), .pure m (.int .i64 1), .pure m (.int .i64 0), .pure m (.str []), .pure m (.str []), .pure m (.int .i64 0), .pure m (.int .u32 0), .pure m (.bool false)]), (1937, .row true zl ll xl), (1938, .row true 9 l2 (W.map bV2)), (1939, .row true zf lf xf), (1940, .box [.pure q (.int .i64 0), .pure q (.int .i64 0), .pure q (.int .i64 0), .pure q (.int .i64 0), .pure q (.int .i64 a), .pure q (.int .i64 r), .pure q (.bool false), .pure q (.bool false), .pure q (.bool s)])]) :
    wpLoop Tryd.prog env 0 1936 (env.ann 20) (env.reg 20) c sl S Q := by
  have hl : (W.map bV2).length = W.length := List.length_map ..
  refine wpLoop_ind (α := Nat) (fun j => ⟨[(1, .ptr 1936 0), (3, .row 1937 nl), (4, .pure true (.int .i64 2)), (5, .row 1938 W.length), (6, .row 1939 nf), (7, .pure true (.int .i64 (k : Nat))), (8, .pure true (.int .i64 e)), (9, .ptr 1940 0), (12, .pure true (.bool (decide (((a, r, s) : T3) ∈ W.take j)))), (13, .pure true (.int .i64 (j : Nat)))], [(1936, .box [.pure m (.int .i64 cf), .pure m (.int .i64 tm), .pure m (.int .i64 1), .pure m (.int .i64 0), .pure m (.str []), .pure m (.str []), .pure m (.int .i64 0), .pure m (.int .u32 0), .pure m (.bool false)]), (1937, .row true zl ll xl), (1938, .row true 9 l2 (W.map bV2)), (1939, .row true zf lf xf), (1940, .box [.pure q (.int .i64 0), .pure q (.int .i64 0), .pure q (.int .i64 0), .pure q (.int .i64 0), .pure q (.int .i64 a), .pure q (.int .i64 r), .pure q (.bool false), .pure q (.bool false), .pure q (.bool s)])]⟩)
    (fun j => j ≤ W.length) (fun j => W.length - j) ?_ 0 (Nat.zero_le _) hc
  rintro j hj
  clear hc
  simp only
  have hx : findLoop 20 (Tryd.f20.body.getD .skip) = some _ := rfl
  rw [hx] at hcode
  cases hcode
  rcases Classical.em (j < W.length) with h1 | h1
  · have hst := old_step W (a, r, s) j h1
    have g1 : (W.map bV2)[j]? = some (bV2 W[j]) := by rw [List.getElem?_map, List.getElem?_eq_getElem h1]; rfl
    generalize W[j] = u at *
    obtain ⟨ua, ur, us⟩ := u
    simp only [bV2] at g1
    rw [dec3] at hst
    generalize decide (((a, r, s) : T3) ∈ W.take j) = od at *
    cases od with
    | true =>
      simp (maxSteps := 400000) -dsimp -implicitDefEqProofs (disch := first | exact TrueB.mk rfl | omega) only [go_sem, hl, g1]
      refine again_mk ⟨j + 1, h1, (by omega), ?_⟩
      simp only [hst, Bool.true_or]
      rfl
    | false =>
      simp (maxSteps := 400000) -dsimp -implicitDefEqProofs (disch := first | exact TrueB.mk rfl | omega) only [go_sem, hl, g1]
      refine again_mk ⟨j + 1, h1, (by omega), ?_⟩
      simp only [hst, Bool.false_or]
      rfl
  · obtain rfl : j = W.length := by omega
    rw [List.take_length, ← ho]
    simp (maxSteps := 400000) -dsimp -implicitDefEqProofs (disch := first | exact TrueB.mk rfl | omega) only [go_sem, hl]
    exact hQ

abbrev X11_0 := Nat × List C3 × List T3 × Nat × Nat
def st11_0 (cf tm : Int) (m : Bool) (L : List C3) (lim k : Nat) (A : List T3) (x : X11_0) : St :=
  ⟨[(1, .ptr 1936 0), (3, .row 1937 L.length), (4, .pure true (.int .i64 0)), (5, .row 1938 (A ++ x.2.2.1).length), (6, .row 1939 x.2.1.length), (7, .pure true (.int .i64 (k : Nat))), (8, .pure true (.int .i64 (17 - (x.1 : Int))))], [(1936, .box [.pure m (.int .i64 cf), .pure m (.int .i64 tm), .pure m (.int .i64 1), .pure m (.int .i64 0), .pure m (.str []), .pure m (.str []), .pure m (.int .i64 0), .pure m (.int .u32 0), .pure m (.bool false)]), (1937, .row true (zC L) lim (cellsV L)), (1938, .row true 9 x.2.2.2.1 ((A ++ x.2.2.1).map bV0)), (1939, .row true (zC x.2.1) x.2.2.2.2 (cellsV x.2.1))]⟩
def I11_0 (cf tm : Int) (b : T3) (f : Nat) (A : List T3) (Fi : List C3) (x : X11_0) : Prop := x.1 ≤ 16 ∧ x.2.2.1.length ≤ 100001 ∧ ∃ s', inn cf tm 0 49185 b x.1 (x.2.1, A ++ x.2.2.1, x.2.2.1) = some s' ∧ outs cf tm 0 49185 f s' = some Fi

set_option maxHeartbeats 64000000 in
theorem rd_0 {c : Code} (hcode : findLoop 11 (Tryd.f20.body.getD .skip) = some c) {cf tm : Int} (h1 : 1 ≤ cf ∧ cf ≤ 255) (h2 : 1 ≤ tm ∧ tm ≤ 255) {f k : Nat} (hk : k ≤ 100000) {Fi : List C3} (hB : Fi.length ≤ 100000) {A : List T3} (hAl : A.length = k + 1) {a r : Int} {s : Bool} (hAk : A[k]? = some (a, r, s)) {L : List C3} {lim : Nat} {m : Bool} {j : Nat} {F : List C3} {T : List T3} {l2 l3 : Nat} (hI : I11_0 cf tm (a, r, s) f A Fi (j + 1, F, T, l2, l3)) {Q : Ex → Slots → Store → Prop} :
    wpX Tryd.prog env 0 1936 (env.ann 20) (env.reg 20) c (st11_0 cf tm m L lim k A (j + 1, F, T, l2, l3)).slots (st11_0 cf tm m L lim k A (j + 1, F, T, l2, l3)).store
      (thenV (again (fun s_1 S => ∃ a', I11_0 cf tm (a, r, s) f A Fi a' ∧ a'.1 < j + 1 ∧ canon 0 1936 (env.ann 20 (firstRegion c)) ⟨s_1, S⟩ = st11_0 cf tm m L lim k A a') ⟨⟩) Q) := by
  have hx : findLoop 11 (Tryd.f20.body.getD .skip) = some _ := rfl
  rw [hx] at hcode
  cases hcode
  obtain ⟨hj, hTb, s', hi', ho⟩ := hI
  simp only at hj hTb hi' ho
  simp only [st11_0]
  have hFl := cellsV_length F
  have e0 : (17 : Int) - ((j + 1 : Nat) : Int) = 16 - (j : Int) := by omega
  rw [e0]
  simp only [inn] at hi'
  split at hi'
  · cases hi'
  rename_i s1 hr
  obtain ⟨e, he⟩ : ∃ e : Int, e = 16 - (j : Int) := ⟨_, rfl⟩
  rw [← he] at hr ⊢
  have hk' : (17 : Int) - (j : Int) = e + 1 := by omega
  have b1 : 1 ≤ e := by omega
  have b2 : e ≤ 16 := by omega
  have g1 : ((A ++ T).map bV0)[k]? = some (bV0 (a, r, s)) := by
    rw [List.getElem?_map, List.getElem?_append_left (by omega), hAk]
    rfl
  have hWl : (A ++ T).length = k + 1 + T.length := by rw [List.length_append, hAl]
  obtain ⟨W, hW⟩ : ∃ W, W = A ++ T := ⟨_, rfl⟩
  rw [← hW] at g1 hWl hr ⊢
  simp only [bV0] at g1
  have g2 : (W.map bV0).length = W.length := List.length_map ..
  have hFb : F.length ≤ 100000 := by
    have q1 := rnd_mono hr
    have q2 := inn_mono _ hi'
    have q3 := outs_mono _ ho
    simp only at q1
    omega
  have hz : zC F = 3 ∨ zC F = 0 := by cases F <;> simp [zC]
  have sc3 : ∀ a b c : Int, PV.scalar.go [.int .i64 a, .int .i64 b, .int .i64 c] = true := fun _ _ _ => rfl
  have sc9 : ∀ (a b c d e f : Int) (x y z : Bool), PV.scalar.go [.int .i64 a, .int .i64 b, .int .i64 c, .int .i64 d, .int .i64 e, .int .i64 f, .bool x, .bool y, .bool z] = true := fun _ _ _ _ _ _ _ _ _ => rfl
  clear e0
  rcases Classical.em (e = 9) with e9 | e9
  · subst e9
    cases s with
    | false =>
      obtain rfl : s1 = (F, W, T) := by
        have := rnd_skip (cf := cf) (tm := tm) (i := 0) (p := 49185) (b := (a, r, false)) (e := 9) (s := (F, W, T)) rfl
        rw [this] at hr
        cases hr
        rfl
      simp (maxSteps := 400000) -dsimp -implicitDefEqProofs (disch := first | exact TrueB.mk rfl | omega) only [go_sem, g2, g1]
      refine again_mk ⟨(j, F, T, l2, l3), ⟨(show j ≤ 16 by omega), hTb, s', by rw [← hW]; exact hi', ho⟩, Nat.lt_succ_self j, ?_⟩
      simp only [st11_0, hk', ← hW]
      rfl
    | true =>
      obtain ⟨hok, q⟩ := rndL (s := true) (e := 9) (by rfl) hr
      rcases q with ⟨q, rfl⟩ | ⟨t, q, q2⟩
      · have hn := fun mc mb mi me => HapN_0 (x := (a, r, true)) (y := (0, 0, false)) (z := (0, 0, false)) hok q mc mb mi me
        unfold confV benchV at hn
        simp only at hn
        simp (maxSteps := 400000) -dsimp -implicitDefEqProofs (disch := first | exact TrueB.mk rfl | omega) only [go_sem, g2, g1]
        first | refine wpAct_call0 (hn _ _ _ _) rfl rfl rfl rfl rfl rfl rfl rfl ?_ | done
        simp (maxSteps := 400000) -dsimp -implicitDefEqProofs (disch := first | exact TrueB.mk rfl | omega) only [go_sem]
        refine again_mk ⟨(j, F, T, l2, l3), ⟨(show j ≤ 16 by omega), hTb, s', by rw [← hW]; exact hi', ho⟩, Nat.lt_succ_self j, ?_⟩
        simp only [st11_0, hk', ← hW]
        rfl
      · obtain ⟨qf, qg, hs⟩ := HapS_0 h1 h2 (x := (a, r, true)) (y := (0, 0, false)) (z := (0, 0, false)) hok q
        have hd := has_any F (49185, a, 9) hFb
        obtain ⟨a', r', s1'⟩ := t
        unfold confV benchV at hs
        simp only at hs hd
        simp (maxSteps := 400000) -dsimp -implicitDefEqProofs (disch := first | exact TrueB.mk rfl | omega) only [go_sem, g2, g1]
        first | refine wpAct_call0 (hs _ _ _ _) rfl rfl rfl rfl rfl rfl rfl rfl ?_ | done
        simp (maxSteps := 400000) -dsimp -implicitDefEqProofs (disch := first | exact TrueB.mk rfl | omega) only [go_sem]
        by_cases hm : ((49185, a, 9) : C3) ∈ F
        · have hadd : addC F (49185, a, 9) = F := by unfold addC; rw [if_pos hm]
          rw [decide_eq_true hm] at hd
          first | refine wpAct_callF (hd _ _) rfl rfl rfl rfl (argV_r rfl hFl.symm (argV_p rfl argV_nil)) rfl rfl rfl rfl ?_ | done
          simp (maxSteps := 400000) -dsimp -implicitDefEqProofs (disch := first | exact TrueB.mk rfl | omega) only [go_sem, g2]
          refine old_0 rfl (W := W) (by omega) rfl rfl ?_
          rcases q2 with ⟨q3, rfl⟩ | ⟨q3, q4, rfl⟩
          · rw [decide_eq_true q3]
            simp (maxSteps := 400000) -dsimp -implicitDefEqProofs (disch := first | exact TrueB.mk rfl | omega) only [go_sem]
            refine again_mk ⟨(j, F, T, l2, l3), ⟨(show j ≤ 16 by omega), hTb, s', by rw [← hW]; rw [hadd] at hi'; exact hi', ho⟩, Nat.lt_succ_self j, ?_⟩
            simp only [st11_0, hk', ← hW]
            rfl
          · rw [decide_eq_false q3]
            simp (maxSteps := 400000) -dsimp -implicitDefEqProofs (disch := first | exact TrueB.mk rfl | omega) only [go_sem, g2, sc9, Bool.or_true]
            refine again_mk ⟨(j, F, T ++ [(a', r', s1')], W.length, l3), ⟨(show j ≤ 16 by omega), (show (T ++ [(a', r', s1')]).length ≤ 100001 by rw [List.length_append]; exact Nat.succ_le_succ q4), s', by rw [← List.append_assoc, ← hW]; rw [hadd] at hi'; exact hi', ho⟩, Nat.lt_succ_self j, ?_⟩
            simp only [st11_0, hk', ← List.append_assoc, ← hW, List.map_append, List.map_cons, List.map_nil, List.length_append, List.length_cons, List.length_nil]
            rfl
        · have hadd : addC F (49185, a, 9) = F ++ [(49185, a, 9)] := by unfold addC; rw [if_neg hm]
          have hz2 : zC (F ++ [((49185, a, 9) : C3)]) = 3 := by cases F <;> rfl
          rw [decide_eq_false hm] at hd
          generalize zC F = z at hz ⊢
          first | refine wpAct_callF (hd _ _) rfl rfl rfl rfl (argV_r rfl hFl.symm (argV_p rfl argV_nil)) rfl rfl rfl rfl ?_ | done
          simp (maxSteps := 400000) -dsimp -implicitDefEqProofs (disch := first | exact TrueB.mk rfl | omega) only [go_sem, g2, hFl, hz, sc3, Bool.or_true]
          refine old_0 rfl (W := W) (by omega) rfl rfl ?_
          rcases q2 with ⟨q3, rfl⟩ | ⟨q3, q4, rfl⟩
          · rw [decide_eq_true q3]
            simp (maxSteps := 400000) -dsimp -implicitDefEqProofs (disch := first | exact TrueB.mk rfl | omega) only [go_sem]
            refine again_mk ⟨(j, (F ++ [(49185, a, 9)]), T, l2, F.length), ⟨(show j ≤ 16 by omega), hTb, s', by rw [← hW]; rw [hadd] at hi'; exact hi', ho⟩, Nat.lt_succ_self j, ?_⟩
            simp only [st11_0, hk', ← hW, hz2, cellsV, List.map_append, List.map_cons, List.map_nil, List.length_append, List.length_cons, List.length_nil]
            rfl
          · rw [decide_eq_false q3]
            simp (maxSteps := 400000) -dsimp -implicitDefEqProofs (disch := first | exact TrueB.mk rfl | omega) only [go_sem, g2, sc9, Bool.or_true]
            refine again_mk ⟨(j, (F ++ [(49185, a, 9)]), T ++ [(a', r', s1')], W.length, F.length), ⟨(show j ≤ 16 by omega), (show (T ++ [(a', r', s1')]).length ≤ 100001 by rw [List.length_append]; exact Nat.succ_le_succ q4), s', by rw [← List.append_assoc, ← hW]; rw [hadd] at hi'; exact hi', ho⟩, Nat.lt_succ_self j, ?_⟩
            simp only [st11_0, hk', ← List.append_assoc, ← hW, List.map_append, List.map_cons, List.map_nil, List.length_append, List.length_cons, List.length_nil, hz2, cellsV]
            rfl
  rcases Classical.em (e = 10) with e10 | e10
  · subst e10
    cases s with
    | false =>
      obtain rfl : s1 = (F, W, T) := by
        have := rnd_skip (cf := cf) (tm := tm) (i := 0) (p := 49185) (b := (a, r, false)) (e := 10) (s := (F, W, T)) rfl
        rw [this] at hr
        cases hr
        rfl
      simp (maxSteps := 400000) -dsimp -implicitDefEqProofs (disch := first | exact TrueB.mk rfl | omega) only [go_sem, g2, g1]
      refine again_mk ⟨(j, F, T, l2, l3), ⟨(show j ≤ 16 by omega), hTb, s', by rw [← hW]; exact hi', ho⟩, Nat.lt_succ_self j, ?_⟩
      simp only [st11_0, hk', ← hW]
      rfl
    | true =>
      obtain ⟨hok, q⟩ := rndL (s := true) (e := 10) (by rfl) hr
      rcases q with ⟨q, rfl⟩ | ⟨t, q, q2⟩
      · have hn := fun mc mb mi me => HapN_0 (x := (a, r, true)) (y := (0, 0, false)) (z := (0, 0, false)) hok q mc mb mi me
        unfold confV benchV at hn
        simp only at hn
        simp (maxSteps := 400000) -dsimp -implicitDefEqProofs (disch := first | exact TrueB.mk rfl | omega) only [go_sem, g2, g1]
        first | refine wpAct_call0 (hn _ _ _ _) rfl rfl rfl rfl rfl rfl rfl rfl ?_ | done
        simp (maxSteps := 400000) -dsimp -implicitDefEqProofs (disch := first | exact TrueB.mk rfl | omega) only [go_sem]
        refine again_mk ⟨(j, F, T, l2, l3), ⟨(show j ≤ 16 by omega), hTb, s', by rw [← hW]; exact hi', ho⟩, Nat.lt_succ_self j, ?_⟩
        simp only [st11_0, hk', ← hW]
        rfl
      · obtain ⟨qf, qg, hs⟩ := HapS_0 h1 h2 (x := (a, r, true)) (y := (0, 0, false)) (z := (0, 0, false)) hok q
        have hd := has_any F (49185, a, 10) hFb
        obtain ⟨a', r', s1'⟩ := t
        unfold confV benchV at hs
        simp only at hs hd
        simp (maxSteps := 400000) -dsimp -implicitDefEqProofs (disch := first | exact TrueB.mk rfl | omega) only [go_sem, g2, g1]
        first | refine wpAct_call0 (hs _ _ _ _) rfl rfl rfl rfl rfl rfl rfl rfl ?_ | done
        simp (maxSteps := 400000) -dsimp -implicitDefEqProofs (disch := first | exact TrueB.mk rfl | omega) only [go_sem]
        by_cases hm : ((49185, a, 10) : C3) ∈ F
        · have hadd : addC F (49185, a, 10) = F := by unfold addC; rw [if_pos hm]
          rw [decide_eq_true hm] at hd
          first | refine wpAct_callF (hd _ _) rfl rfl rfl rfl (argV_r rfl hFl.symm (argV_p rfl argV_nil)) rfl rfl rfl rfl ?_ | done
          simp (maxSteps := 400000) -dsimp -implicitDefEqProofs (disch := first | exact TrueB.mk rfl | omega) only [go_sem, g2]
          refine old_0 rfl (W := W) (by omega) rfl rfl ?_
          rcases q2 with ⟨q3, rfl⟩ | ⟨q3, q4, rfl⟩
          · rw [decide_eq_true q3]
            simp (maxSteps := 400000) -dsimp -implicitDefEqProofs (disch := first | exact TrueB.mk rfl | omega) only [go_sem]
            refine again_mk ⟨(j, F, T, l2, l3), ⟨(show j ≤ 16 by omega), hTb, s', by rw [← hW]; rw [hadd] at hi'; exact hi', ho⟩, Nat.lt_succ_self j, ?_⟩
            simp only [st11_0, hk', ← hW]
            rfl
          · rw [decide_eq_false q3]
            simp (maxSteps := 400000) -dsimp -implicitDefEqProofs (disch := first | exact TrueB.mk rfl | omega) only [go_sem, g2, sc9, Bool.or_true]
            refine again_mk ⟨(j, F, T ++ [(a', r', s1')], W.length, l3), ⟨(show j ≤ 16 by omega), (show (T ++ [(a', r', s1')]).length ≤ 100001 by rw [List.length_append]; exact Nat.succ_le_succ q4), s', by rw [← List.append_assoc, ← hW]; rw [hadd] at hi'; exact hi', ho⟩, Nat.lt_succ_self j, ?_⟩
            simp only [st11_0, hk', ← List.append_assoc, ← hW, List.map_append, List.map_cons, List.map_nil, List.length_append, List.length_cons, List.length_nil]
            rfl
        · have hadd : addC F (49185, a, 10) = F ++ [(49185, a, 10)] := by unfold addC; rw [if_neg hm]
          have hz2 : zC (F ++ [((49185, a, 10) : C3)]) = 3 := by cases F <;> rfl
          rw [decide_eq_false hm] at hd
          generalize zC F = z at hz ⊢
          first | refine wpAct_callF (hd _ _) rfl rfl rfl rfl (argV_r rfl hFl.symm (argV_p rfl argV_nil)) rfl rfl rfl rfl ?_ | done
          simp (maxSteps := 400000) -dsimp -implicitDefEqProofs (disch := first | exact TrueB.mk rfl | omega) only [go_sem, g2, hFl, hz, sc3, Bool.or_true]
          refine old_0 rfl (W := W) (by omega) rfl rfl ?_
          rcases q2 with ⟨q3, rfl⟩ | ⟨q3, q4, rfl⟩
          · rw [decide_eq_true q3]
            simp (maxSteps := 400000) -dsimp -implicitDefEqProofs (disch := first | exact TrueB.mk rfl | omega) only [go_sem]
            refine again_mk ⟨(j, (F ++ [(49185, a, 10)]), T, l2, F.length), ⟨(show j ≤ 16 by omega), hTb, s', by rw [← hW]; rw [hadd] at hi'; exact hi', ho⟩, Nat.lt_succ_self j, ?_⟩
            simp only [st11_0, hk', ← hW, hz2, cellsV, List.map_append, List.map_cons, List.map_nil, List.length_append, List.length_cons, List.length_nil]
            rfl
          · rw [decide_eq_false q3]
            simp (maxSteps := 400000) -dsimp -implicitDefEqProofs (disch := first | exact TrueB.mk rfl | omega) only [go_sem, g2, sc9, Bool.or_true]
            refine again_mk ⟨(j, (F ++ [(49185, a, 10)]), T ++ [(a', r', s1')], W.length, F.length), ⟨(show j ≤ 16 by omega), (show (T ++ [(a', r', s1')]).length ≤ 100001 by rw [List.length_append]; exact Nat.succ_le_succ q4), s', by rw [← List.append_assoc, ← hW]; rw [hadd] at hi'; exact hi', ho⟩, Nat.lt_succ_self j, ?_⟩
            simp only [st11_0, hk', ← List.append_assoc, ← hW, List.map_append, List.map_cons, List.map_nil, List.length_append, List.length_cons, List.length_nil, hz2, cellsV]
            rfl
  obtain ⟨hok, q⟩ := rndL (s := s) (e := e) (by simp [skip3, e9, e10]) hr
  rcases q with ⟨q, rfl⟩ | ⟨t, q, q2⟩
  · have hn := fun mc mb mi me => HapN_0 (x := (a, r, s)) (y := (0, 0, false)) (z := (0, 0, false)) hok q mc mb mi me
    unfold confV benchV at hn
    simp only at hn
    simp (maxSteps := 400000) -dsimp -implicitDefEqProofs (disch := first | exact TrueB.mk rfl | omega) only [go_sem, g2, g1, e9, e10]
    first | refine wpAct_call0 (hn _ _ _ _) rfl rfl rfl rfl rfl rfl rfl rfl ?_ | done
    simp (maxSteps := 400000) -dsimp -implicitDefEqProofs (disch := first | exact TrueB.mk rfl | omega) only [go_sem]
    refine again_mk ⟨(j, F, T, l2, l3), ⟨(show j ≤ 16 by omega), hTb, s', by rw [← hW]; exact hi', ho⟩, Nat.lt_succ_self j, ?_⟩
    simp only [st11_0, hk', ← hW]
    rfl
  · obtain ⟨qf, qg, hs⟩ := HapS_0 h1 h2 (x := (a, r, s)) (y := (0, 0, false)) (z := (0, 0, false)) hok q
    have hd := has_any F (49185, a, e) hFb
    obtain ⟨a', r', s1'⟩ := t
    unfold confV benchV at hs
    simp only at hs hd
    simp (maxSteps := 400000) -dsimp -implicitDefEqProofs (disch := first | exact TrueB.mk rfl | omega) only [go_sem, g2, g1, e9, e10]
    first | refine wpAct_call0 (hs _ _ _ _) rfl rfl rfl rfl rfl rfl rfl rfl ?_ | done
    simp (maxSteps := 400000) -dsimp -implicitDefEqProofs (disch := first | exact TrueB.mk rfl | omega) only [go_sem]
    by_cases hm : ((49185, a, e) : C3) ∈ F
    · have hadd : addC F (49185, a, e) = F := by unfold addC; rw [if_pos hm]
      rw [decide_eq_true hm] at hd
      first | refine wpAct_callF (hd _ _) rfl rfl rfl rfl (argV_r rfl hFl.symm (argV_p rfl argV_nil)) rfl rfl rfl rfl ?_ | done
      simp (maxSteps := 400000) -dsimp -implicitDefEqProofs (disch := first | exact TrueB.mk rfl | omega) only [go_sem, g2]
      refine old_0 rfl (W := W) (by omega) rfl rfl ?_
      rcases q2 with ⟨q3, rfl⟩ | ⟨q3, q4, rfl⟩
      · rw [decide_eq_true q3]
        simp (maxSteps := 400000) -dsimp -implicitDefEqProofs (disch := first | exact TrueB.mk rfl | omega) only [go_sem]
        refine again_mk ⟨(j, F, T, l2, l3), ⟨(show j ≤ 16 by omega), hTb, s', by rw [← hW]; rw [hadd] at hi'; exact hi', ho⟩, Nat.lt_succ_self j, ?_⟩
        simp only [st11_0, hk', ← hW]
        rfl
      · rw [decide_eq_false q3]
        simp (maxSteps := 400000) -dsimp -implicitDefEqProofs (disch := first | exact TrueB.mk rfl | omega) only [go_sem, g2, sc9, Bool.or_true]
        refine again_mk ⟨(j, F, T ++ [(a', r', s1')], W.length, l3), ⟨(show j ≤ 16 by omega), (show (T ++ [(a', r', s1')]).length ≤ 100001 by rw [List.length_append]; exact Nat.succ_le_succ q4), s', by rw [← List.append_assoc, ← hW]; rw [hadd] at hi'; exact hi', ho⟩, Nat.lt_succ_self j, ?_⟩
        simp only [st11_0, hk', ← List.append_assoc, ← hW, List.map_append, List.map_cons, List.map_nil, List.length_append, List.length_cons, List.length_nil]
        rfl
    · have hadd : addC F (49185, a, e) = F ++ [(49185, a, e)] := by unfold addC; rw [if_neg hm]
      have hz2 : zC (F ++ [((49185, a, e) : C3)]) = 3 := by cases F <;> rfl
      rw [decide_eq_false hm] at hd
      generalize zC F = z at hz ⊢
      first | refine wpAct_callF (hd _ _) rfl rfl rfl rfl (argV_r rfl hFl.symm (argV_p rfl argV_nil)) rfl rfl rfl rfl ?_ | done
      simp (maxSteps := 400000) -dsimp -implicitDefEqProofs (disch := first | exact TrueB.mk rfl | omega) only [go_sem, g2, hFl, hz, sc3, Bool.or_true]
      refine old_0 rfl (W := W) (by omega) rfl rfl ?_
      rcases q2 with ⟨q3, rfl⟩ | ⟨q3, q4, rfl⟩
      · rw [decide_eq_true q3]
        simp (maxSteps := 400000) -dsimp -implicitDefEqProofs (disch := first | exact TrueB.mk rfl | omega) only [go_sem]
        refine again_mk ⟨(j, (F ++ [(49185, a, e)]), T, l2, F.length), ⟨(show j ≤ 16 by omega), hTb, s', by rw [← hW]; rw [hadd] at hi'; exact hi', ho⟩, Nat.lt_succ_self j, ?_⟩
        simp only [st11_0, hk', ← hW, hz2, cellsV, List.map_append, List.map_cons, List.map_nil, List.length_append, List.length_cons, List.length_nil]
        rfl
      · rw [decide_eq_false q3]
        simp (maxSteps := 400000) -dsimp -implicitDefEqProofs (disch := first | exact TrueB.mk rfl | omega) only [go_sem, g2, sc9, Bool.or_true]
        refine again_mk ⟨(j, (F ++ [(49185, a, e)]), T ++ [(a', r', s1')], W.length, F.length), ⟨(show j ≤ 16 by omega), (show (T ++ [(a', r', s1')]).length ≤ 100001 by rw [List.length_append]; exact Nat.succ_le_succ q4), s', by rw [← List.append_assoc, ← hW]; rw [hadd] at hi'; exact hi', ho⟩, Nat.lt_succ_self j, ?_⟩
        simp only [st11_0, hk', ← List.append_assoc, ← hW, List.map_append, List.map_cons, List.map_nil, List.length_append, List.length_cons, List.length_nil, hz2, cellsV]
        rfl

set_option maxHeartbeats 64000000 in
theorem l11_0 {c : Code} (hcode : findLoop 11 (Tryd.f20.body.getD .skip) = some c) {cf tm : Int} (h1 : 1 ≤ cf ∧ cf ≤ 255) (h2 : 1 ≤ tm ∧ tm ≤ 255) {f k : Nat} (hk : k ≤ 100000) {Fi : List C3} (hB : Fi.length ≤ 100000) {A : List T3} (hAl : A.length = k + 1) {a r : Int} {s : Bool} (hAk : A[k]? = some (a, r, s)) {L : List C3} {lim : Nat} {m : Bool} {x : X11_0} (hx16 : x.1 = 16) (hI : I11_0 cf tm (a, r, s) f A Fi x) {sl : Slots} {S : Store} {Q : Ex → Slots → Store → Prop}
    (hc : canon 0 1936 (env.ann 20 (firstRegion c)) ⟨sl, S⟩ = st11_0 cf tm m L lim k A x)
    (hQ : ∀ F T l2 l3, T.length ≤ 100001 → outs cf tm 0 49185 f (F, A ++ T, T) = some Fi → Q (.exit 4) ((30, .pure true (.bool false)) :: (29, .pure true (.int .i64 17)) :: [(1, .ptr 1936 0), (3, .row 1937 L.length), (4, .pure true (.int .i64 0)), (5, .row 1938 (A.length + T.length)), (6, .row 1939 F.length), (7, .pure true (.int .i64 (k : Nat))), (8, .pure true (.int .i64 17))]) [(1936, .box [.pure m (.int .i64 cf), .pure m (.int .i64 tm), .pure m (.int .i64 1), .pure m (.int .i64 0), .pure m (.str []), .pure m (.str []), .pure m (.int .i64 0), .pure m (.int .u32 0), .pure m (.bool false)]), (1937, .row true (zC L) lim (cellsV L)), (1938, .row true 9 l2 ((A ++ T).map bV0)), (1939, .row true (zC F) l3 (cellsV F))]) :
    wpLoop Tryd.prog env 0 1936 (env.ann 20) (env.reg 20) c sl S Q := by
  refine wpLoop_ind (st11_0 cf tm m L lim k A) (I11_0 cf tm (a, r, s) f A Fi) (fun x => x.1) ?_ x hI hc
  clear hc hI hx16 x
  rintro ⟨j, F, T, l2, l3⟩ hI
  cases j with
  | succ j => exact rd_0 hcode h1 h2 hk hB hAl hAk hI
  | zero =>
    have hx : findLoop 11 (Tryd.f20.body.getD .skip) = some _ := rfl
    rw [hx] at hcode
    cases hcode
    obtain ⟨hj, hTb, s', hi', ho⟩ := hI
    simp only [inn, Option.some.injEq] at hi'
    subst hi'
    have hq := hQ F T l2 l3 hTb ho
    clear hQ
    simp only [st11_0]
    have e0 : (17 : Int) - ((0 : Nat) : Int) = 17 := rfl
    simp (maxSteps := 400000) -dsimp -implicitDefEqProofs (disch := first | exact TrueB.mk rfl | omega) only [go_sem, e0]
    exact hq

end Go.Proofs.YticdhmcbooabaaaDoor
