/- YtpgklagjjimbhaaWB: what naks: the plain law, the places of a list's Types, the closures. No claim. -/
import Derived.Test.YtpgklagjjimbhaaT
set_option linter.unusedVariables false
set_option linter.unusedSimpArgs false
set_option maxRecDepth 100000
namespace Go.Proofs.Ytpgklagjjimbhaa
open Go Go.Proofs.Ytpgklagjjimbhaa.V

/-! ### the plain law -/
def placeO (a : List Opt) (o : Opt) : Nat := match findO a o.1 with | some i => i | none => a.length
def lastL (a l : List Opt) : Int := l.foldl (fun m o => max m (placeO a o : Int)) (-1)
theorem lastL_next (a b : List Opt) {i : Nat} (h : i < b.length) : lastL a (b.take (i + 1)) = max (lastL a (b.take i)) (placeO a b[i] : Int) := by
  unfold lastL
  rw [← List.take_append_getElem h, List.foldl_append]
  rfl
theorem fold_lt (a l : List Opt) (x s : Int) : x < l.foldl (fun m o => max m (placeO a o : Int)) s ↔ x < s ∨ ∃ o ∈ l, x < (placeO a o : Int) := by
  induction l generalizing s with
  | nil => simp
  | cons o r ih =>
    rw [List.foldl_cons, ih]
    simp only [List.mem_cons, exists_eq_or_imp]
    constructor
    · rintro (h | h)
      · by_cases h2 : x < s
        · exact .inl h2
        · exact .inr (.inl (by omega))
      · exact .inr (.inr h)
    · rintro (h | h | h)
      · exact .inl (by omega)
      · exact .inl (by omega)
      · exact .inr h
theorem lastL_lt (a l : List Opt) (x : Nat) : (x : Int) < lastL a l ↔ ∃ o ∈ l, x < placeO a o := by
  unfold lastL
  rw [fold_lt]
  constructor
  · rintro (h | ⟨o, ho, h⟩)
    · omega
    · exact ⟨o, ho, by omega⟩
  · rintro ⟨o, ho, h⟩
    exact .inr ⟨o, ho, by omega⟩
/-- Is an option of the answer wrong, behind those? -/
def badO (a pre : List Opt) (o : Opt) : Bool := ((findO a o.1).isSome && decide ((placeO a o : Int) < lastL a pre)) || a.contains o
def noneBad (a b : List Opt) (i : Nat) : Prop := i ≤ b.length ∧ ∀ j (h : j < b.length), j < i → badO a (b.take j) b[j] = false
def naksO (a b : List Opt) : Bool := (List.range b.length).all fun i => !badO a (b.take i) (b.getD i (0, []))
theorem noneBad_0 (a b : List Opt) : noneBad a b 0 := ⟨Nat.zero_le _, fun _ _ h => by omega⟩
theorem noneBad_next {a b : List Opt} {i : Nat} (h : noneBad a b i) (h1 : i < b.length) (e : badO a (b.take i) b[i] = false) : noneBad a b (i + 1) :=
  ⟨h1, fun j hj hlt => by
    by_cases hji : j = i
    · subst hji; exact e
    · exact h.2 j hj (by omega)⟩
theorem naksO_bad {a b : List Opt} {i : Nat} (h1 : i < b.length) (e : badO a (b.take i) b[i] = true) : naksO a b = false := by
  unfold naksO
  rw [List.all_eq_false]
  refine ⟨i, List.mem_range.2 h1, ?_⟩
  simp [List.getD_eq_getElem?_getD, h1, e]
theorem naksO_good {a b : List Opt} {i : Nat} (h : noneBad a b i) (h1 : b.length ≤ i) : naksO a b = true := by
  unfold naksO
  rw [List.all_eq_true]
  intro j hj
  have hj' := List.mem_range.1 hj
  simp [List.getD_eq_getElem?_getD, hj', h.2 j hj' (by omega)]

/-- The place of the first one with a mark. -/
def idxP (p : Opt → Bool) (l : List Opt) : Int := idxI (l.findIdx? p)
def noneP (p : Opt → Bool) (l : List Opt) (i : Nat) : Prop := i ≤ l.length ∧ ∀ j (h : j < l.length), j < i → p l[j] = false
theorem noneP_0 (p : Opt → Bool) (l : List Opt) : noneP p l 0 := ⟨Nat.zero_le _, fun _ _ h => by omega⟩
theorem noneP_next {p : Opt → Bool} {l : List Opt} {i : Nat} (h : noneP p l i) (h1 : i < l.length) (e : p l[i] = false) : noneP p l (i + 1) :=
  ⟨h1, fun j hj hlt => by
    by_cases hji : j = i
    · subst hji; exact e
    · exact h.2 j hj (by omega)⟩
theorem idxP_at {p : Opt → Bool} {l : List Opt} {i : Nat} (h : noneP p l i) (h1 : i < l.length) (e : p l[i] = true) : idxP p l = i := by
  unfold idxP
  have : l.findIdx? p = some i := by
    rw [List.findIdx?_eq_some_iff_getElem]
    exact ⟨h1, e, fun j hj => by simpa using h.2 j (by omega) hj⟩
  rw [this]
  rfl
theorem idxP_none {p : Opt → Bool} {l : List Opt} {i : Nat} (h : noneP p l i) (h1 : l.length ≤ i) : idxP p l = -1 := by
  unfold idxP
  have : l.findIdx? p = none := by
    rw [List.findIdx?_eq_none_iff]
    intro x hx
    obtain ⟨j, hj, rfl⟩ := List.getElem_of_mem hx
    exact h.2 j hj (by omega)
  rw [this]
  rfl
theorem idxP_has (o : Opt) (l : List Opt) : decide (0 ≤ idxP (fun x => x == o) l) = l.contains o := by
  unfold idxP
  cases h : l.findIdx? (fun x => x == o) with
  | none =>
    rw [List.findIdx?_eq_none_iff] at h
    symm
    rw [show decide (0 ≤ idxI none) = false from rfl]
    rw [Bool.eq_false_iff]
    intro hc
    have := h o (by simpa using hc)
    simp at this
  | some i =>
    rw [List.findIdx?_eq_some_iff_getElem] at h
    obtain ⟨hi, e, _⟩ := h
    have e' : l[i] = o := by simpa using e
    rw [show decide (0 ≤ idxI (some i)) = true from by simp [idxI]]
    symm
    rw [List.contains_iff_mem]
    exact e' ▸ List.getElem_mem hi

/-! ### the places of the Types -/
def plM (ks : List (Int × Nat)) : List (PV × PV) := ks.map fun p => (.int .i64 p.1, .int .i64 p.2)
theorem mapFind_pl (t : Int) (ks : List (Int × Nat)) : mapFind (.int .i64 t) (plM ks) = some (match ks.lookup t with | some i => some (.int .i64 (i : Nat)) | none => none) := by
  induction ks with
  | nil => simp [plM, mapFind]
  | cons u r ih =>
    obtain ⟨u, j⟩ := u
    have e : plM ((u, j) :: r) = (.int .i64 u, .int .i64 j) :: plM r := rfl
    rw [e, mapFind, List.lookup_cons]
    by_cases h : t = u
    · simp [PV.isAgg, PV.cells, eqCells, h]
    · have h2 : (t == u) = false := by simpa using h
      simp [PV.isAgg, PV.cells, eqCells, h, ih, h2]
theorem mapPut_pl (t : Int) (i : Nat) (ks : List (Int × Nat)) (h : ks.lookup t = none) : mapPut (.int .i64 t) (.int .i64 i) (plM ks) = plM (ks ++ [(t, i)]) := by
  induction ks with
  | nil => simp [plM, mapPut]
  | cons u r ih =>
    obtain ⟨u, j⟩ := u
    have e : plM ((u, j) :: r) = (.int .i64 u, .int .i64 j) :: plM r := rfl
    rw [List.lookup_cons] at h
    by_cases h1 : t = u
    · simp [h1] at h
    · have h2 : (t == u) = false := by simpa using h1
      rw [h2] at h
      rw [e, mapPut]
      simp only [PV.cells, eqCells, if_true, decide_eq_false h1, Bool.false_and]
      rw [ih h]
      rfl
/-- Those are the places of the list's Types. -/
def places (l : List Opt) (ks : List (Int × Nat)) : Prop := ∀ t, ks.lookup t = findO l t
theorem places_nil : places [] [] := fun t => rfl
theorem findO_next (l : List Opt) {i : Nat} (h : i < l.length) (t : Int) : findO (l.take (i + 1)) t = match findO (l.take i) t with | some j => some j | none => if l[i].1 = t then some i else none := by
  unfold findO
  rw [← List.take_append_getElem h, List.findIdx?_append]
  cases (l.take i).findIdx? (fun o => o.1 == t) with
  | some j => rfl
  | none =>
    have hl : (l.take i).length = i := by rw [List.length_take]; omega
    by_cases e : l[i].1 = t <;> simp [List.findIdx?_cons, e, hl]
theorem lookup_join (t u : Int) (i : Nat) (ks : List (Int × Nat)) : (ks ++ [(u, i)]).lookup t = match ks.lookup t with | some j => some j | none => if u = t then some i else none := by
  induction ks with
  | nil =>
    by_cases e : u = t
    · subst e; simp [List.lookup_cons]
    · have : (t == u) = false := by simpa using fun h : t = u => e h.symm
      simp [List.lookup_cons, this, e]
  | cons p r ih =>
    obtain ⟨v, j⟩ := p
    rw [List.cons_append, List.lookup_cons, List.lookup_cons]
    cases (t == v) with
    | true => rfl
    | false => exact ih
theorem places_old {l : List Opt} {ks : List (Int × Nat)} {i : Nat} (hi : i < l.length) (h : places (l.take i) ks) {j : Nat} (e : ks.lookup l[i].1 = some j) : places (l.take (i + 1)) ks := by
  intro t
  rw [findO_next l hi, ← h t]
  cases h2 : ks.lookup t with
  | some _ => rfl
  | none =>
    simp only
    rw [if_neg]
    rintro rfl
    rw [h2] at e
    cases e
theorem places_new {l : List Opt} {ks : List (Int × Nat)} {i : Nat} (hi : i < l.length) (h : places (l.take i) ks) : places (l.take (i + 1)) (ks ++ [(l[i].1, i)]) := by
  intro t
  rw [findO_next l hi, lookup_join, h t]

def placesK (l : List Opt) : Nat → List (Int × Nat)
  | 0 => []
  | i + 1 => match l[i]? with
    | some o => match (placesK l i).lookup o.1 with
      | some _ => placesK l i
      | none => placesK l i ++ [(o.1, i)]
    | none => placesK l i
theorem placesK_old {l : List Opt} {i : Nat} (hi : i < l.length) {j : Nat} (e : (placesK l i).lookup l[i].1 = some j) : placesK l (i + 1) = placesK l i := by
  show (match l[i]? with
    | some o => match (placesK l i).lookup o.1 with
      | some _ => placesK l i
      | none => placesK l i ++ [(o.1, i)]
    | none => placesK l i) = _
  rw [List.getElem?_eq_getElem hi]
  simp only [e]
theorem placesK_new {l : List Opt} {i : Nat} (hi : i < l.length) (e : (placesK l i).lookup l[i].1 = none) : placesK l (i + 1) = placesK l i ++ [(l[i].1, i)] := by
  show (match l[i]? with
    | some o => match (placesK l i).lookup o.1 with
      | some _ => placesK l i
      | none => placesK l i ++ [(o.1, i)]
    | none => placesK l i) = _
  rw [List.getElem?_eq_getElem hi]
  simp only [e]
theorem places_K (l : List Opt) (i : Nat) (h : i ≤ l.length) : places (l.take i) (placesK l i) := by
  induction i with
  | zero => exact places_nil
  | succ i ih =>
    have h0 := ih (by omega)
    cases e : (placesK l i).lookup l[i].1 with
    | some j => rw [placesK_old (by omega) e]; exact places_old (by omega) h0 e
    | none => rw [placesK_new (by omega) e]; exact places_new (by omega) h0
theorem places_all (l : List Opt) : places l (placesK l l.length) := by
  have := places_K l l.length (Nat.le_refl _)
  rwa [List.take_length] at this

set_option maxHeartbeats 8000000 in
theorem places_any (l : List Opt) (hl : l.length ≤ 100000) (m : Bool) : Runs Try.prog env 95 [.pure m (.sl (optsV l))] [] (.map 0) [(0, .map true (plM (placesK l l.length)))] := by
  refine Runs.of Try.func95 rfl (by simp [Try.ntmps95]) ?_
  have k1 : ∀ v, evalO env v (.const (.map none)) = .pure true (.opq (.map none)) := fun _ => rfl
  have k2 : isNilSlice (.const (.map none)) = false := rfl
  simp (maxSteps := 400000) -dsimp -implicitDefEqProofs (disch := first | exact TrueB.mk rfl | omega) only [go_sem, Nat.reduceMul, Nat.reduceAdd, Nat.reduceLT, Nat.reduceLeDiff, Nat.reducePow, Nat.reduceEqDiff, ↓reduceIte, reduceCtorEq, Int.reduceToNat, Try.ntmps95, k1, k2]
  refine wpLoop_ind (α := Nat)
    (fun i => ⟨[(3, .map 496), (9, .pure m (.sl (optsV l))), (10, .pure true (.int .i64 l.length)), (11, .pure true (.int .i64 i))], [(496, .map true (plM (placesK l i)))]⟩)
    (fun i => i ≤ l.length) (fun i => l.length - i) ?_ 0 (by simp) rfl
  rintro i hi
  simp (maxSteps := 400000) -dsimp -implicitDefEqProofs (disch := first | exact TrueB.mk rfl | omega) only [go_sem, Nat.reduceMul, Nat.reduceAdd, Nat.reduceLT, Nat.reduceLeDiff, Nat.reducePow, Nat.reduceEqDiff, ↓reduceIte, reduceCtorEq, Int.reduceToNat]
  first | refine condK_dec (fun h1 => ?_) (fun h1 => ?_) | refine condK_ndec (fun h1 => ?_) (fun h1 => ?_) | refine condK_beq (fun h1 => ?_) (fun h1 => ?_) | refine condK_bne (fun h1 => ?_) (fun h1 => ?_) | refine condK_nbeq (fun h1 => ?_) (fun h1 => ?_) | refine guardK_dec (fun h1 => ?_) (fun h1 => ?_) | refine guardK_ndec (fun h1 => ?_) (fun h1 => ?_) | refine guardK_beq (fun h1 => ?_) (fun h1 => ?_) | refine guardK_bne (fun h1 => ?_) (fun h1 => ?_) | refine guardK_nbeq (fun h1 => ?_) (fun h1 => ?_) | refine condK_not (fun h1 => ?_) (fun h1 => ?_) | refine guardK_not (fun h1 => ?_) (fun h1 => ?_) | refine condK_bool (fun h1 => ?_) (fun h1 => ?_) | refine guardK_bool (fun h1 => ?_) (fun h1 => ?_) | done
  · have g1 := opts_at (l := l) (i := i) (by omega)
    have hlt : i < l.length := by omega
    have g2 := mapFind_pl (l[i]'hlt).1 (placesK l i)
    cases e : (placesK l i).lookup (l[i]'hlt).1 with
    | some j =>
      rw [e] at g2
      simp (maxSteps := 400000) -dsimp -implicitDefEqProofs (disch := first | exact TrueB.mk rfl | omega) only [go_sem, Nat.reduceMul, Nat.reduceAdd, Nat.reduceLT, Nat.reduceLeDiff, Nat.reducePow, Nat.reduceEqDiff, ↓reduceIte, reduceCtorEq, Int.reduceToNat, g1, g2]
      refine again_mk ⟨i + 1, by omega, by omega, ?_⟩
      rw [placesK_old hlt e]
      rfl
    | none =>
      rw [e] at g2
      have g3 := mapPut_pl (l[i]'hlt).1 i (placesK l i) e
      simp (maxSteps := 400000) -dsimp -implicitDefEqProofs (disch := first | exact TrueB.mk rfl | omega) only [go_sem, Nat.reduceMul, Nat.reduceAdd, Nat.reduceLT, Nat.reduceLeDiff, Nat.reducePow, Nat.reduceEqDiff, ↓reduceIte, reduceCtorEq, Int.reduceToNat, g1, g2, g3]
      refine again_mk ⟨i + 1, by omega, by omega, ?_⟩
      rw [placesK_new hlt e]
      rfl
  · simp (maxSteps := 400000) -dsimp -implicitDefEqProofs (disch := first | exact TrueB.mk rfl | omega) only [go_sem, Nat.reduceMul, Nat.reduceAdd, Nat.reduceLT, Nat.reduceLeDiff, Nat.reducePow, Nat.reduceEqDiff, ↓reduceIte, reduceCtorEq, Int.reduceToNat]
    obtain rfl : i = l.length := by omega
    first | exact rfl | done
end Go.Proofs.Ytpgklagjjimbhaa
