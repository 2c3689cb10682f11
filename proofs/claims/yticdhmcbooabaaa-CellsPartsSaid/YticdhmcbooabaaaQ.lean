/- YticdhmcbooabaaaQ: events at links, told to the evaluator. No claim. -/
import Derived.Test.Yticdhmcbooabaaa29
import Derived.Test.YticdhmcbooabaaaN
set_option linter.unusedVariables false
set_option linter.unusedSimpArgs false
set_option maxRecDepth 100000
namespace Go.Proofs.Yticdhmcbooabaaa
open Go Go.Proofs.Yticdhmcbooabaaa.V

def dI : SV → Option (Bool × Int)
  | .pure m (.int .i64 n) => some (m, n)
  | _ => none
theorem dI_eq {v : SV} {m : Bool} {n : Int} (h : dI v = some (m, n)) : v = .pure m (.int .i64 n) := by
  unfold dI at h
  split at h
  · cases h; rfl
  · cases h
def dB : SV → Option (Bool × Bool)
  | .pure m (.bool n) => some (m, n)
  | _ => none
theorem dB_eq {v : SV} {m n : Bool} (h : dB v = some (m, n)) : v = .pure m (.bool n) := by
  unfold dB at h
  split at h
  · cases h; rfl
  · cases h
def isConf (cf tm : Int) : PV → Bool
  | .agg [.int .i64 a, .int .i64 b, .int .i64 c, .int .i64 d, .str [], .str [], .int .i64 f, .int .u32 g, .bool false] => decide (a = cf) && decide (b = tm) && decide (c = 1) && decide (d = 0) && decide (f = 0) && decide (g = 0)
  | _ => false
theorem isConf_eq {cf tm : Int} {x : PV} (h : isConf cf tm x = true) : x = confV cf tm 1 := by
  unfold isConf at h
  split at h
  · simp only [Bool.and_eq_true, decide_eq_true_eq] at h
    obtain ⟨⟨⟨⟨⟨rfl, rfl⟩, rfl⟩, rfl⟩, rfl⟩, rfl⟩ := h
    rfl
  · cases h

/-- What happens at a link of state s and count r, if it may. -/
def hapO (cf tm s r e : Int) : Option (Option (Nat × Int × Bool)) :=
  if 0 ≤ r ∧ r ≤ 255 then match stepOut s e r with
    | none => some none
    | some (n, l) => if l.length ≤ 100 then some (some (n, restA cf tm l r, hasN l 7)) else none
  else none

def noneA : SV := .tuple [.pure true (.agg [.int .i64 0, .int .i64 0, .int .i64 0]), .pure true (.bool false)]

def hkH (cf tm : Int) : CF := fun g a S =>
  if g = 23 then match a, S with
    | [.ptr 0 0, .pure mc c, vi, ve], [(0, .box [x0, x1, x2, x3, x4, x5, y0, y1, y2])] =>
      if isConf cf tm c then match dI vi, dI ve, dI x0, dI x1, dI x2, dI x3, dI x4, dI x5, dB y0, dB y1, dB y2 with
        | some (mi, i), some (me, e), some (f0, a0), some (f1, r0), some (f2, a1), some (f3, r1), some (f4, a2), some (f5, r2), some (g0, s0), some (g1, s1), some (g2, s2) =>
          if i = 0 then match hapO cf tm a0 r0 e with
            | none => none
            | some none => some (noneA, S)
            | some (some (n, r, y)) => some (.tuple [.pure (f0 && me) (.agg [.int .i64 49185, .int .i64 a0, .int .i64 e]), .pure true (.bool true)], [(0, .box [.pure false (.int .i64 n), .pure false (.int .i64 r), x2, x3, x4, x5, .pure true (.bool (s0 || y)), y1, y2])])
          else if i = 1 then match hapO cf tm a1 r1 e with
            | none => none
            | some none => some (noneA, S)
            | some (some (n, r, y)) => some (.tuple [.pure (f2 && me) (.agg [.int .i64 32801, .int .i64 a1, .int .i64 e]), .pure true (.bool true)], [(0, .box [x0, x1, .pure false (.int .i64 n), .pure false (.int .i64 r), x4, x5, y0, .pure true (.bool (s1 || y)), y2])])
          else if i = 2 then match hapO cf tm a2 r2 e with
            | none => none
            | some none => some (noneA, S)
            | some (some (n, r, y)) => some (.tuple [.pure (f4 && me) (.agg [.int .i64 32855, .int .i64 a2, .int .i64 e]), .pure true (.bool true)], [(0, .box [x0, x1, x2, x3, .pure false (.int .i64 n), .pure false (.int .i64 r), y0, y1, .pure true (.bool (s2 || y))])])
          else none
        | _, _, _, _, _, _, _, _, _, _, _ => none
      else none
    | _, _ => none
  else none

theorem hapO_no {cf tm s r e : Int} (h : hapO cf tm s r e = some none) : 0 ≤ r ∧ stepOut s e r = none := by
  unfold hapO at h
  split at h
  · rename_i h1
    split at h
    · rename_i h2; exact ⟨h1.1, h2⟩
    · split at h <;> cases h
  · cases h
theorem hapO_yes {cf tm s r e : Int} {n : Nat} {x : Int} {y : Bool} (h : hapO cf tm s r e = some (some (n, x, y))) : (0 ≤ r ∧ r ≤ 255) ∧ ∃ l : List Nat, stepOut s e r = some (n, l) ∧ l.length ≤ 100 ∧ x = restA cf tm l r ∧ y = hasN l 7 := by
  unfold hapO at h
  split at h
  · rename_i h1
    split at h
    · cases h
    · rename_i n' l h2
      split at h
      · rename_i h3
        cases h
        exact ⟨h1, l, h2, h3, rfl, rfl⟩
      · cases h
  · cases h

theorem hkH_ok {cf tm : Int} (h1 : 1 ≤ cf ∧ cf ≤ 255) (h2 : 1 ≤ tm ∧ tm ≤ 255) : CfOk Try.prog env (hkH cf tm) := by
  intro g a S r h
  unfold hkH at h
  split at h
  · rename_i hg
    subst hg
    split at h
    · rename_i mc c vi ve x0 x1 x2 x3 x4 x5 y0 y1 y2
      split at h
      · rename_i hc
        obtain rfl := isConf_eq hc
        split at h
        · rename_i mi i me e f0 a0 f1 r0 f2 a1 f3 r1 f4 a2 f5 r2 g0 s0 g1 s1 g2 s2 e1 e2 e3 e4 e5 e6 e7 e8 e9 e10 e11
          obtain rfl := dI_eq e1
          obtain rfl := dI_eq e2
          obtain rfl := dI_eq e3
          obtain rfl := dI_eq e4
          obtain rfl := dI_eq e5
          obtain rfl := dI_eq e6
          obtain rfl := dI_eq e7
          obtain rfl := dI_eq e8
          obtain rfl := dB_eq e9
          obtain rfl := dB_eq e10
          obtain rfl := dB_eq e11
          split at h
          · rename_i hi
            subst hi
            split at h
            · cases h
            · rename_i ho
              cases h
              obtain ⟨q1, q2⟩ := hapO_no ho
              exact happen_no_0 a0 r0 a1 r1 a2 r2 e cf tm s0 s1 s2 q1 q2 f0 f1 f2 f3 f4 f5 g0 g1 g2 mc mi me
            · rename_i n x y ho
              cases h
              obtain ⟨q1, l, q2, q3, rfl, rfl⟩ := hapO_yes ho
              exact happen_yes_0 a0 r0 a1 r1 a2 r2 e cf tm s0 s1 s2 h1 h2 q1 q2 q3 f0 f1 f2 f3 f4 f5 g0 g1 g2 mc mi me
          · split at h
            · rename_i hi
              subst hi
              split at h
              · cases h
              · rename_i ho
                cases h
                obtain ⟨q1, q2⟩ := hapO_no ho
                exact happen_no_1 a0 r0 a1 r1 a2 r2 e cf tm s0 s1 s2 q1 q2 f0 f1 f2 f3 f4 f5 g0 g1 g2 mc mi me
              · rename_i n x y ho
                cases h
                obtain ⟨q1, l, q2, q3, rfl, rfl⟩ := hapO_yes ho
                exact happen_yes_1 a0 r0 a1 r1 a2 r2 e cf tm s0 s1 s2 h1 h2 q1 q2 q3 f0 f1 f2 f3 f4 f5 g0 g1 g2 mc mi me
            · split at h
              · rename_i hi
                subst hi
                split at h
                · cases h
                · rename_i ho
                  cases h
                  obtain ⟨q1, q2⟩ := hapO_no ho
                  exact happen_no_2 a0 r0 a1 r1 a2 r2 e cf tm s0 s1 s2 q1 q2 f0 f1 f2 f3 f4 f5 g0 g1 g2 mc mi me
                · rename_i n x y ho
                  cases h
                  obtain ⟨q1, l, q2, q3, rfl, rfl⟩ := hapO_yes ho
                  exact happen_yes_2 a0 r0 a1 r1 a2 r2 e cf tm s0 s1 s2 h1 h2 q1 q2 q3 f0 f1 f2 f3 f4 f5 g0 g1 g2 mc mi me
              · cases h
        · cases h
      · cases h
    · cases h
  · cases h
end Go.Proofs.Yticdhmcbooabaaa
