/- YticdhmcbooabaaaS: the search over the automata of one link, plainly; maps. No claim. -/
import Derived.Test.YticdhmcbooabaaaQ
set_option linter.unusedVariables false
set_option linter.unusedSimpArgs false
set_option maxRecDepth 100000
namespace Go.Proofs.Yticdhmcbooabaaa
open Go Go.Proofs.Yticdhmcbooabaaa.V


/-- A call that hands back a new map. -/
theorem wpAct_callM {P : Program} {E : Env} {base : Nat} {o : Oper} {ev : Operand → SV} {look : Nat → Option Ob} {K : Eff → Prop} {c : Call} {f : Operand} {g : FuncId} {caps av : List SV} {δ : Store} {es : List (PV × PV)} {mm : Bool}
    (hr : Runs P E g av [] (.map 0) [(0, .map mm es)]) (ho : o.op = .call c) (hc : c.callee = .value f) (hf : ev f = .clo g caps) (hi : E.intr g = none) (ha : argV base (E.byRef g) look (c.args.toList.map ev ++ caps) = some (av, δ)) (hn : refsL av = [])
    (hk : freshKeys look (base + 16 * (o.dst.getD 0)) 16 = true)
    (h : K { res := .map (base + 16 * (o.dst.getD 0)), wr := (base + 16 * (o.dst.getD 0), .map mm es) :: δ, rd := some ((List.range 16).map (base + 16 * (o.dst.getD 0) + ·) ++ refsL (c.args.toList.map ev ++ caps)) }) : wpAct P E base o ev look K := by
  refine wpAct_call hr ho hc hf hi ha hn (by simp [hk]) ?_
  simpa [backAll, newO, V.get, renO, List.range_succ, newV, ren] using h

/-- An automaton of one link: state, count, whether it sent. -/
abbrev T3 := Int × Int × Bool
def bV0 (t : T3) : PV := .agg [.int .i64 t.1, .int .i64 t.2.1, .int .i64 0, .int .i64 0, .int .i64 0, .int .i64 0, .bool t.2.2, .bool false, .bool false]
def bV1 (t : T3) : PV := .agg [.int .i64 0, .int .i64 0, .int .i64 t.1, .int .i64 t.2.1, .int .i64 0, .int .i64 0, .bool false, .bool t.2.2, .bool false]
def bV2 (t : T3) : PV := .agg [.int .i64 0, .int .i64 0, .int .i64 0, .int .i64 0, .int .i64 t.1, .int .i64 t.2.1, .bool false, .bool false, .bool t.2.2]
def seenM (f : T3 → PV) (l : List T3) : List (PV × PV) := l.map fun t => (f t, .bool true)
def firedM (l : List C3) : List (PV × PV) := l.map fun c => (cV c, .bool true)
def addC (l : List C3) (c : C3) : List C3 := if c ∈ l then l else l ++ [c]

/-- Keys that are told apart cell by cell. -/
def Apart (f : T3 → PV) : Prop := ∀ t u : T3, (f t).isAgg = true ∧ eqCells (f t).cells (f u).cells = some (decide (t = u))
theorem dec3 {a b : Int} {x y : Bool} {c d : Int} : decide (((a, b, x) : T3) = (c, d, y)) = (decide (a = c) && (decide (b = d) && decide (x = y))) := by
  rw [Bool.eq_iff_iff]
  simp [Prod.ext_iff]
theorem apart0 : Apart bV0 := by
  rintro ⟨a, b, x⟩ ⟨c, d, y⟩
  refine ⟨rfl, ?_⟩
  rw [dec3]
  simp [bV0, PV.cells, eqCells]
theorem apart1 : Apart bV1 := by
  rintro ⟨a, b, x⟩ ⟨c, d, y⟩
  refine ⟨rfl, ?_⟩
  rw [dec3]
  simp [bV1, PV.cells, eqCells]
theorem apart2 : Apart bV2 := by
  rintro ⟨a, b, x⟩ ⟨c, d, y⟩
  refine ⟨rfl, ?_⟩
  rw [dec3]
  simp [bV2, PV.cells, eqCells]
theorem find_seen {f : T3 → PV} (hf : Apart f) (t : T3) (l : List T3) : mapFind (f t) (seenM f l) = some (if t ∈ l then some (.bool true) else none) := by
  induction l with
  | nil => simp [seenM, mapFind]
  | cons u r ih =>
    have e : seenM f (u :: r) = (f u, .bool true) :: seenM f r := rfl
    rw [e, mapFind, (hf t u).1, (hf u u).1, (hf t u).2]
    by_cases h : t = u
    · simp [h]
    · simp [h, ih]
theorem put_seen {f : T3 → PV} (hf : Apart f) (t : T3) (l : List T3) (h : t ∉ l) : mapPut (f t) (.bool true) (seenM f l) = seenM f (l ++ [t]) := by
  induction l with
  | nil => rfl
  | cons u r ih =>
    simp only [List.mem_cons, not_or] at h
    have e : seenM f (u :: r) = (f u, .bool true) :: seenM f r := rfl
    rw [e, mapPut, (hf t u).2, decide_eq_false h.1]
    simp only
    rw [ih h.2]
    rfl
theorem eqC (c d : C3) : eqCells (cV c).cells (cV d).cells = some (decide (c = d)) := by
  obtain ⟨a, b, x⟩ := c
  obtain ⟨a', b', x'⟩ := d
  have : decide (((a, b, x) : C3) = (a', b', x')) = (decide (a = a') && (decide (b = b') && decide (x = x'))) := by
    rw [Bool.eq_iff_iff]
    simp [Prod.ext_iff]
  rw [this]
  simp [cV, PV.cells, eqCells]
theorem find_fired (c : C3) (l : List C3) : mapFind (cV c) (firedM l) = some (if c ∈ l then some (.bool true) else none) := by
  induction l with
  | nil => simp [firedM, mapFind]
  | cons u r ih =>
    have e : firedM (u :: r) = (cV u, .bool true) :: firedM r := rfl
    have h1 : (cV c).isAgg = (cV u).isAgg := rfl
    rw [e, mapFind, if_pos h1, eqC]
    by_cases h : c = u
    · simp [h]
    · simp [h, ih]
theorem put_fired (c : C3) (l : List C3) : mapPut (cV c) (.bool true) (firedM l) = firedM (addC l c) := by
  induction l with
  | nil => rfl
  | cons u r ih =>
    have e : firedM (u :: r) = (cV u, .bool true) :: firedM r := rfl
    rw [e, mapPut, eqC]
    by_cases h : c = u
    · subst h
      simp [addC, firedM]
    · rw [decide_eq_false h]
      simp only
      rw [ih]
      unfold addC
      by_cases h2 : c ∈ r
      · simp [h2, firedM]
      · simp [h2, h, firedM]

/-- The search, plainly: the cells that were fired, the automata that were seen, those to do. -/
abbrev S3 := List C3 × List T3 × List T3
def skip3 (i : Nat) (e : Int) (s : Bool) : Bool := (i != 0 && e == 16) || ((e == 9 || e == 10) && !s)
def rnd (cf tm : Int) (i : Nat) (p : Int) (b : T3) (e : Int) (s : S3) : Option S3 :=
  if skip3 i e b.2.2 then some s else match hapO cf tm b.1 b.2.1 e with
    | none => none
    | some none => some s
    | some (some (n, r, y)) =>
      let t : T3 := (n, r, b.2.2 || y)
      let F := addC s.1 (p, b.1, e)
      if t ∈ s.2.1 then some (F, s.2.1, s.2.2) else if s.2.2.length ≤ 100000 then some (F, s.2.1 ++ [t], s.2.2 ++ [t]) else none
def inn (cf tm : Int) (i : Nat) (p : Int) (b : T3) : Nat → S3 → Option S3
  | 0, s => some s
  | k + 1, s => match rnd cf tm i p b (16 - (k : Int)) s with
    | none => none
    | some s' => inn cf tm i p b k s'
def outs (cf tm : Int) (i : Nat) (p : Int) : Nat → S3 → Option (List C3)
  | 0, _ => none
  | f + 1, s => match s.2.2 with
    | [] => some s.1
    | b :: t => match inn cf tm i p b 16 (s.1, s.2.1, t) with
      | none => none
      | some s' => outs cf tm i p f s'
theorem rnd_skip {cf tm : Int} {i : Nat} {p : Int} {b : T3} {e : Int} {s : S3} (h : skip3 i e b.2.2 = true) : rnd cf tm i p b e s = some s := by
  unfold rnd
  rw [if_pos h]

def todoS : List T3 → SV
  | [] => .pure true (.sl [])
  | _ :: t => .row 1171 (t.length + 1)
def todoO (f : T3 → PV) : List T3 → Nat → Store
  | [], _ => []
  | b :: t, lim => [(1171, .row true 9 lim (f b :: t.map f))]
theorem rnd_no {cf tm : Int} {i : Nat} {p : Int} {b : T3} {e : Int} {s s' : S3} (hs : skip3 i e b.2.2 = false) (h : rnd cf tm i p b e s = some s') (hh : stepOut b.1 e b.2.1 = none) : s' = s ∧ 0 ≤ b.2.1 := by
  unfold rnd at h
  rw [if_neg (by simp [hs])] at h
  split at h
  · cases h
  · rename_i ho
    cases h
    exact ⟨rfl, (hapO_no ho).1⟩
  · rename_i n r y ho
    obtain ⟨_, l, q, _⟩ := hapO_yes ho
    rw [hh] at q
    cases q
theorem rnd_yes {cf tm : Int} {i : Nat} {p : Int} {b : T3} {e : Int} {s s' : S3} (hs : skip3 i e b.2.2 = false) (h : rnd cf tm i p b e s = some s') {n : Nat} {l : List Nat} (hh : stepOut b.1 e b.2.1 = some (n, l)) :
    (0 ≤ b.2.1 ∧ b.2.1 ≤ 255) ∧ l.length ≤ 100 ∧ (((((n : Int), restA cf tm l b.2.1, b.2.2 || hasN l 7) : T3) ∈ s.2.1 ∧ s' = (addC s.1 (p, b.1, e), s.2.1, s.2.2)) ∨ ((((n : Int), restA cf tm l b.2.1, b.2.2 || hasN l 7) : T3) ∉ s.2.1 ∧ s.2.2.length ≤ 100000 ∧ s' = (addC s.1 (p, b.1, e), s.2.1 ++ [((n : Int), restA cf tm l b.2.1, b.2.2 || hasN l 7)], s.2.2 ++ [((n : Int), restA cf tm l b.2.1, b.2.2 || hasN l 7)]))) := by
  unfold rnd at h
  rw [if_neg (by simp [hs])] at h
  split at h
  · cases h
  · rename_i ho
    have := (hapO_no ho).2
    rw [hh] at this
    cases this
  · rename_i n' r y ho
    obtain ⟨q1, l', q2, q3, rfl, rfl⟩ := hapO_yes ho
    rw [hh] at q2
    cases q2
    refine ⟨q1, q3, ?_⟩
    simp only at h
    split at h
    · rename_i hm
      cases h
      exact .inl ⟨hm, rfl⟩
    · rename_i hm
      split at h
      · rename_i hl
        cases h
        exact .inr ⟨hm, hl, rfl⟩
      · cases h
end Go.Proofs.Yticdhmcbooabaaa
