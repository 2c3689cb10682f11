/- YticdhmcbooabaaaDoorQS: parts of the proof of CellsKeeps. No claim. -/
import Derived.Test.YticdhmcbooabaaaDoor29
import Derived.Test.YticdhmcbooabaaaDoorMN
set_option linter.unusedVariables false
set_option linter.unusedSimpArgs false
set_option maxRecDepth 1000000
namespace Go.Proofs.YticdhmcbooabaaaDoor
open Go Go.Proofs.YticdhmcbooabaaaDoor.V

def dI : SV → Option (Bool × Int)
  | .pure m (.int .i64 n) => some (m, n)
  | _ => none
theorem dI_eq {v : SV} {m : Bool} {n : Int} (h : dI v = some (m, n)) : v = .pure m (.int .i64 n) := by
  unfold dI at h
  split at h
  · cases h; rfl
  · cases h
def dB : SV → Option (Bool × Bool)
  | .pure m (.bool n) => some (m, n)
  | _ => none
theorem dB_eq {v : SV} {m n : Bool} (h : dB v = some (m, n)) : v = .pure m (.bool n) := by
  unfold dB at h
  split at h
  · cases h; rfl
  · cases h
def isConf (cf tm : Int) : PV → Bool
  | .agg [.int .i64 a, .int .i64 b, .int .i64 c, .int .i64 d, .str [], .str [], .int .i64 f, .int .u32 g, .bool false] => decide (a = cf) && decide (b = tm) && decide (c = 1) && decide (d = 0) && decide (f = 0) && decide (g = 0)
  | _ => false
theorem isConf_eq {cf tm : Int} {x : PV} (h : isConf cf tm x = true) : x = confV cf tm 1 := by
  unfold isConf at h
  split at h
  · simp only [Bool.and_eq_true, decide_eq_true_eq] at h
    obtain ⟨⟨⟨⟨⟨rfl, rfl⟩, rfl⟩, rfl⟩, rfl⟩, rfl⟩ := h
    rfl
  · cases h

/-- What happens at a link of state s and count r, if it may. -/
def hapO (cf tm s r e : Int) : Option (Option (Nat × Int × Bool)) :=
  if 0 ≤ r ∧ r ≤ 255 then match stepOut s e r with
    | none => some none
    | some (n, l) => if l.length ≤ 100 then some (some (n, restA cf tm l r, hasN l 7)) else none
  else none

def noneA : SV := .tuple [.pure true (.agg [.int .i64 0, .int .i64 0, .int .i64 0]), .pure true (.bool false)]

def hkH (cf tm : Int) : CF := fun g a S =>
  if g = 47 then match a, S with
    | [.ptr 0 0, .pure mc c, vi, ve], [(0, .box [x0, x1, x2, x3, x4, x5, y0, y1, y2])] =>
      if isConf cf tm c then match dI vi, dI ve, dI x0, dI x1, dI x2, dI x3, dI x4, dI x5, dB y0, dB y1, dB y2 with
        | some (mi, i), some (me, e), some (f0, a0), some (f1, r0), some (f2, a1), some (f3, r1), some (f4, a2), some (f5, r2), some (g0, s0), some (g1, s1), some (g2, s2) =>
          if i = 0 then match hapO cf tm a0 r0 e with
            | none => none
            | some none => some (noneA, S)
            | some (some (n, r, y)) => some (.tuple [.pure (f0 && me) (.agg [.int .i64 49185, .int .i64 a0, .int .i64 e]), .pure true (.bool true)], [(0, .box [.pure false (.int .i64 n), .pure false (.int .i64 r), x2, x3, x4, x5, .pure true (.bool (s0 || y)), y1, y2])])
          else if i = 1 then match hapO cf tm a1 r1 e with
            | none => none
            | some none => some (noneA, S)
            | some (some (n, r, y)) => some (.tuple [.pure (f2 && me) (.agg [.int .i64 32801, .int .i64 a1, .int .i64 e]), .pure true (.bool true)], [(0, .box [x0, x1, .pure false (.int .i64 n), .pure false (.int .i64 r), x4, x5, y0, .pure true (.bool (s1 || y)), y2])])
          else if i = 2 then match hapO cf tm a2 r2 e with
            | none => none
            | some none => some (noneA, S)
            | some (some (n, r, y)) => some (.tuple [.pure (f4 && me) (.agg [.int .i64 32855, .int .i64 a2, .int .i64 e]), .pure true (.bool true)], [(0, .box [x0, x1, x2, x3, .pure false (.int .i64 n), .pure false (.int .i64 r), y0, y1, .pure true (.bool (s2 || y))])])
          else none
        | _, _, _, _, _, _, _, _, _, _, _ => none
      else none
    | _, _ => none
  else none

theorem hapO_no {cf tm s r e : Int} (h : hapO cf tm s r e = some none) : 0 ≤ r ∧ stepOut s e r = none := by
  unfold hapO at h
  split at h
  · rename_i h1
    split at h
    · rename_i h2; exact ⟨h1.1, h2⟩
    · split at h <;> cases h
  · cases h
theorem hapO_yes {cf tm s r e : Int} {n : Nat} {x : Int} {y : Bool} (h : hapO cf tm s r e = some (some (n, x, y))) : (0 ≤ r ∧ r ≤ 255) ∧ ∃ l : List Nat, stepOut s e r = some (n, l) ∧ l.length ≤ 100 ∧ x = restA cf tm l r ∧ y = hasN l 7 := by
  unfold hapO at h
  split at h
  · rename_i h1
    split at h
    · cases h
    · rename_i n' l h2
      split at h
      · rename_i h3
        cases h
        exact ⟨h1, l, h2, h3, rfl, rfl⟩
      · cases h
  · cases h

theorem hkH_ok {cf tm : Int} (h1 : 1 ≤ cf ∧ cf ≤ 255) (h2 : 1 ≤ tm ∧ tm ≤ 255) : CfOk Tryd.prog env (hkH cf tm) := by
  intro g a S r h
  unfold hkH at h
  split at h
  · rename_i hg
    subst hg
    split at h
    · rename_i mc c vi ve x0 x1 x2 x3 x4 x5 y0 y1 y2
      split at h
      · rename_i hc
        obtain rfl := isConf_eq hc
        split at h
        · rename_i mi i me e f0 a0 f1 r0 f2 a1 f3 r1 f4 a2 f5 r2 g0 s0 g1 s1 g2 s2 e1 e2 e3 e4 e5 e6 e7 e8 e9 e10 e11
          obtain rfl := dI_eq e1
          obtain rfl := dI_eq e2
          obtain rfl := dI_eq e3
          obtain rfl := dI_eq e4
          obtain rfl := dI_eq e5
          obtain rfl := dI_eq e6
          obtain rfl := dI_eq e7
          obtain rfl := dI_eq e8
          obtain rfl := dB_eq e9
          obtain rfl := dB_eq e10
          obtain rfl := dB_eq e11
          split at h
          · rename_i hi
            subst hi
            split at h
            · cases h
            · rename_i ho
              cases h
              obtain ⟨q1, q2⟩ := hapO_no ho
              exact happen_no_0 a0 r0 a1 r1 a2 r2 e cf tm s0 s1 s2 q1 q2 f0 f1 f2 f3 f4 f5 g0 g1 g2 mc mi me
            · rename_i n x y ho
              cases h
              obtain ⟨q1, l, q2, q3, rfl, rfl⟩ := hapO_yes ho
              exact happen_yes_0 a0 r0 a1 r1 a2 r2 e cf tm s0 s1 s2 h1 h2 q1 q2 q3 f0 f1 f2 f3 f4 f5 g0 g1 g2 mc mi me
          · split at h
            · rename_i hi
              subst hi
              split at h
              · cases h
              · rename_i ho
                cases h
                obtain ⟨q1, q2⟩ := hapO_no ho
                exact happen_no_1 a0 r0 a1 r1 a2 r2 e cf tm s0 s1 s2 q1 q2 f0 f1 f2 f3 f4 f5 g0 g1 g2 mc mi me
              · rename_i n x y ho
                cases h
                obtain ⟨q1, l, q2, q3, rfl, rfl⟩ := hapO_yes ho
                exact happen_yes_1 a0 r0 a1 r1 a2 r2 e cf tm s0 s1 s2 h1 h2 q1 q2 q3 f0 f1 f2 f3 f4 f5 g0 g1 g2 mc mi me
            · split at h
              · rename_i hi
                subst hi
                split at h
                · cases h
                · rename_i ho
                  cases h
                  obtain ⟨q1, q2⟩ := hapO_no ho
                  exact happen_no_2 a0 r0 a1 r1 a2 r2 e cf tm s0 s1 s2 q1 q2 f0 f1 f2 f3 f4 f5 g0 g1 g2 mc mi me
                · rename_i n x y ho
                  cases h
                  obtain ⟨q1, l, q2, q3, rfl, rfl⟩ := hapO_yes ho
                  exact happen_yes_2 a0 r0 a1 r1 a2 r2 e cf tm s0 s1 s2 h1 h2 q1 q2 q3 f0 f1 f2 f3 f4 f5 g0 g1 g2 mc mi me
              · cases h
        · cases h
      · cases h
    · cases h
  · cases h

/-- A call that hands back a new map. -/
theorem wpAct_callM {P : Program} {E : Env} {base : Nat} {o : Oper} {ev : Operand → SV} {look : Nat → Option Ob} {K : Eff → Prop} {c : Call} {f : Operand} {g : FuncId} {caps av : List SV} {δ : Store} {es : List (PV × PV)} {mm : Bool}
    (hr : Runs P E g av [] (.map 0) [(0, .map mm es)]) (ho : o.op = .call c) (hc : c.callee = .value f) (hf : ev f = .clo g caps) (hi : E.intr g = none) (ha : argV base (E.byRef g) look (c.args.toList.map ev ++ caps) = some (av, δ)) (hn : refsL av = [])
    (hk : freshKeys look (base + 16 * (o.dst.getD 0)) 16 = true)
    (h : K { res := .map (base + 16 * (o.dst.getD 0)), wr := (base + 16 * (o.dst.getD 0), .map mm es) :: δ, rd := some ((List.range 16).map (base + 16 * (o.dst.getD 0) + ·) ++ refsL (c.args.toList.map ev ++ caps)) }) : wpAct P E base o ev look K := by
  refine wpAct_call hr ho hc hf hi ha hn (by simp [hk]) ?_
  simpa [backAll, newO, V.get, renO, List.range_succ, newV, ren] using h

/-- An automaton of one link: state, count, whether it sent. -/
abbrev T3 := Int × Int × Bool
def bV0 (t : T3) : PV := .agg [.int .i64 t.1, .int .i64 t.2.1, .int .i64 0, .int .i64 0, .int .i64 0, .int .i64 0, .bool t.2.2, .bool false, .bool false]
def bV1 (t : T3) : PV := .agg [.int .i64 0, .int .i64 0, .int .i64 t.1, .int .i64 t.2.1, .int .i64 0, .int .i64 0, .bool false, .bool t.2.2, .bool false]
def bV2 (t : T3) : PV := .agg [.int .i64 0, .int .i64 0, .int .i64 0, .int .i64 0, .int .i64 t.1, .int .i64 t.2.1, .bool false, .bool false, .bool t.2.2]
def seenM (f : T3 → PV) (l : List T3) : List (PV × PV) := l.map fun t => (f t, .bool true)
def firedM (l : List C3) : List (PV × PV) := l.map fun c => (cV c, .bool true)
def addC (l : List C3) (c : C3) : List C3 := if c ∈ l then l else l ++ [c]

/-- Keys that are told apart cell by cell. -/
def Apart (f : T3 → PV) : Prop := ∀ t u : T3, (f t).isAgg = true ∧ eqCells (f t).cells (f u).cells = some (decide (t = u))
theorem dec3 {a b : Int} {x y : Bool} {c d : Int} : decide (((a, b, x) : T3) = (c, d, y)) = (decide (a = c) && (decide (b = d) && decide (x = y))) := by
  rw [Bool.eq_iff_iff]
  simp [Prod.ext_iff]
theorem apart0 : Apart bV0 := by
  rintro ⟨a, b, x⟩ ⟨c, d, y⟩
  refine ⟨rfl, ?_⟩
  rw [dec3]
  simp [bV0, PV.cells, eqCells]
theorem apart1 : Apart bV1 := by
  rintro ⟨a, b, x⟩ ⟨c, d, y⟩
  refine ⟨rfl, ?_⟩
  rw [dec3]
  simp [bV1, PV.cells, eqCells]
theorem apart2 : Apart bV2 := by
  rintro ⟨a, b, x⟩ ⟨c, d, y⟩
  refine ⟨rfl, ?_⟩
  rw [dec3]
  simp [bV2, PV.cells, eqCells]
theorem find_seen {f : T3 → PV} (hf : Apart f) (t : T3) (l : List T3) : mapFind (f t) (seenM f l) = some (if t ∈ l then some (.bool true) else none) := by
  induction l with
  | nil => simp [seenM, mapFind]
  | cons u r ih =>
    have e : seenM f (u :: r) = (f u, .bool true) :: seenM f r := rfl
    rw [e, mapFind, (hf t u).1, (hf u u).1, (hf t u).2]
    by_cases h : t = u
    · simp [h]
    · simp [h, ih]
theorem put_seen {f : T3 → PV} (hf : Apart f) (t : T3) (l : List T3) (h : t ∉ l) : mapPut (f t) (.bool true) (seenM f l) = seenM f (l ++ [t]) := by
  induction l with
  | nil => rfl
  | cons u r ih =>
    simp only [List.mem_cons, not_or] at h
    have e : seenM f (u :: r) = (f u, .bool true) :: seenM f r := rfl
    rw [e, mapPut, (hf t u).2, decide_eq_false h.1]
    simp only
    rw [ih h.2]
    rfl
theorem eqC (c d : C3) : eqCells (cV c).cells (cV d).cells = some (decide (c = d)) := by
  obtain ⟨a, b, x⟩ := c
  obtain ⟨a', b', x'⟩ := d
  have : decide (((a, b, x) : C3) = (a', b', x')) = (decide (a = a') && (decide (b = b') && decide (x = x'))) := by
    rw [Bool.eq_iff_iff]
    simp [Prod.ext_iff]
  rw [this]
  simp [cV, PV.cells, eqCells]
theorem find_fired (c : C3) (l : List C3) : mapFind (cV c) (firedM l) = some (if c ∈ l then some (.bool true) else none) := by
  induction l with
  | nil => simp [firedM, mapFind]
  | cons u r ih =>
    have e : firedM (u :: r) = (cV u, .bool true) :: firedM r := rfl
    have h1 : (cV c).isAgg = (cV u).isAgg := rfl
    rw [e, mapFind, if_pos h1, eqC]
    by_cases h : c = u
    · simp [h]
    · simp [h, ih]
theorem put_fired (c : C3) (l : List C3) : mapPut (cV c) (.bool true) (firedM l) = firedM (addC l c) := by
  induction l with
  | nil => rfl
  | cons u r ih =>
    have e : firedM (u :: r) = (cV u, .bool true) :: firedM r := rfl
    rw [e, mapPut, eqC]
    by_cases h : c = u
    · subst h
      simp [addC, firedM]
    · rw [decide_eq_false h]
      simp only
      rw [ih]
      unfold addC
      by_cases h2 : c ∈ r
      · simp [h2, firedM]
      · simp [h2, h, firedM]

/-- The search, plainly: the cells that were fired, the automata that were seen, those to do. -/
abbrev S3 := List C3 × List T3 × List T3
def skip3 (i : Nat) (e : Int) (s : Bool) : Bool := (i != 0 && e == 16) || ((e == 9 || e == 10) && !s)
def rnd (cf tm : Int) (i : Nat) (p : Int) (b : T3) (e : Int) (s : S3) : Option S3 :=
  if skip3 i e b.2.2 then some s else match hapO cf tm b.1 b.2.1 e with
    | none => none
    | some none => some s
    | some (some (n, r, y)) =>
      let t : T3 := (n, r, b.2.2 || y)
      let F := addC s.1 (p, b.1, e)
      if t ∈ s.2.1 then some (F, s.2.1, s.2.2) else if s.2.2.length ≤ 100000 then some (F, s.2.1 ++ [t], s.2.2 ++ [t]) else none
def inn (cf tm : Int) (i : Nat) (p : Int) (b : T3) : Nat → S3 → Option S3
  | 0, s => some s
  | k + 1, s => match rnd cf tm i p b (16 - (k : Int)) s with
    | none => none
    | some s' => inn cf tm i p b k s'
def outs (cf tm : Int) (i : Nat) (p : Int) : Nat → S3 → Option (List C3)
  | 0, _ => none
  | f + 1, s => match s.2.2 with
    | [] => some s.1
    | b :: t => match inn cf tm i p b 16 (s.1, s.2.1, t) with
      | none => none
      | some s' => outs cf tm i p f s'
theorem rnd_skip {cf tm : Int} {i : Nat} {p : Int} {b : T3} {e : Int} {s : S3} (h : skip3 i e b.2.2 = true) : rnd cf tm i p b e s = some s := by
  unfold rnd
  rw [if_pos h]

def todoS : List T3 → SV
  | [] => .pure true (.sl [])
  | _ :: t => .row 1171 (t.length + 1)
def todoO (f : T3 → PV) : List T3 → Nat → Store
  | [], _ => []
  | b :: t, lim => [(1171, .row true 9 lim (f b :: t.map f))]
theorem rnd_no {cf tm : Int} {i : Nat} {p : Int} {b : T3} {e : Int} {s s' : S3} (hs : skip3 i e b.2.2 = false) (h : rnd cf tm i p b e s = some s') (hh : stepOut b.1 e b.2.1 = none) : s' = s ∧ 0 ≤ b.2.1 := by
  unfold rnd at h
  rw [if_neg (by simp [hs])] at h
  split at h
  · cases h
  · rename_i ho
    cases h
    exact ⟨rfl, (hapO_no ho).1⟩
  · rename_i n r y ho
    obtain ⟨_, l, q, _⟩ := hapO_yes ho
    rw [hh] at q
    cases q
theorem rnd_yes {cf tm : Int} {i : Nat} {p : Int} {b : T3} {e : Int} {s s' : S3} (hs : skip3 i e b.2.2 = false) (h : rnd cf tm i p b e s = some s') {n : Nat} {l : List Nat} (hh : stepOut b.1 e b.2.1 = some (n, l)) :
    (0 ≤ b.2.1 ∧ b.2.1 ≤ 255) ∧ l.length ≤ 100 ∧ (((((n : Int), restA cf tm l b.2.1, b.2.2 || hasN l 7) : T3) ∈ s.2.1 ∧ s' = (addC s.1 (p, b.1, e), s.2.1, s.2.2)) ∨ ((((n : Int), restA cf tm l b.2.1, b.2.2 || hasN l 7) : T3) ∉ s.2.1 ∧ s.2.2.length ≤ 100000 ∧ s' = (addC s.1 (p, b.1, e), s.2.1 ++ [((n : Int), restA cf tm l b.2.1, b.2.2 || hasN l 7)], s.2.2 ++ [((n : Int), restA cf tm l b.2.1, b.2.2 || hasN l 7)]))) := by
  unfold rnd at h
  rw [if_neg (by simp [hs])] at h
  split at h
  · cases h
  · rename_i ho
    have := (hapO_no ho).2
    rw [hh] at this
    cases this
  · rename_i n' r y ho
    obtain ⟨q1, l', q2, q3, rfl, rfl⟩ := hapO_yes ho
    rw [hh] at q2
    cases q2
    refine ⟨q1, q3, ?_⟩
    simp only at h
    split at h
    · rename_i hm
      cases h
      exact .inl ⟨hm, rfl⟩
    · rename_i hm
      split at h
      · rename_i hl
        cases h
        exact .inr ⟨hm, hl, rfl⟩
      · cases h

end Go.Proofs.YticdhmcbooabaaaDoor
