/- V24: the calculus with branches that wait until their condition is known. No claim. -/
import Derived.Test.YticdhmcbooabaaaDoor23
set_option linter.unusedVariables false
set_option linter.unusedSimpArgs false
namespace Go.Proofs.YticdhmcbooabaaaDoor.V
open Go

/-- Two ways on; a rewriter looks at the condition alone. -/
def condK (A B : Prop) (_ : Tag (A, B)) (v : SV) : Prop := condV v A B
def guardK (A B : Prop) (_ : Tag (A, B)) (w : Option Bool) : Prop := guardV w A B
def drawK (A : Prop) (_ : Tag A) (b : Bool) : Prop := b = true ∧ A
structure TrueB (b : Bool) : Prop where
  h : b = true

section
variable {A B : Prop} {m : Bool}
theorem condK_t {t : Tag (A, B)} : condK A B t (.pure m (.bool true)) = A := by simp [condK, condV]
theorem condK_f {t : Tag (A, B)} : condK A B t (.pure m (.bool false)) = B := by simp [condK, condV]
theorem guardK_t {t : Tag (A, B)} : guardK A B t (some true) = A := rfl
theorem guardK_f {t : Tag (A, B)} : guardK A B t (some false) = B := rfl
theorem drawK_ok {t : Tag A} {b : Bool} (h : TrueB b) : drawK A t b = A := propext ⟨fun x => x.2, fun x => ⟨h.h, x⟩⟩

theorem condK_bool {t : Tag (A, B)} {c : Bool} (h1 : c = true → A) (h2 : c = false → B) : condK A B t (.pure m (.bool c)) := by
  cases c with
  | true => exact h1 rfl
  | false => exact h2 rfl
theorem condK_dec {t : Tag (A, B)} {p : Prop} [Decidable p] (h1 : p → A) (h2 : ¬ p → B) : condK A B t (.pure m (.bool (decide p))) :=
  condK_bool (fun h => h1 (of_decide_eq_true h)) (fun h => h2 (of_decide_eq_false h))
theorem condK_ndec {t : Tag (A, B)} {p : Prop} [Decidable p] (h1 : ¬ p → A) (h2 : p → B) : condK A B t (.pure m (.bool !(decide p))) :=
  condK_bool (fun h => h1 (by simpa using h)) (fun h => h2 (by simpa using h))
theorem condK_beq {t : Tag (A, B)} {α : Type} [BEq α] [LawfulBEq α] {a b : α} (h1 : a = b → A) (h2 : a ≠ b → B) : condK A B t (.pure m (.bool (a == b))) :=
  condK_bool (fun h => h1 (beq_iff_eq.1 h)) (fun h => h2 (by simpa using h))
theorem condK_bne {t : Tag (A, B)} {α : Type} [BEq α] [LawfulBEq α] {a b : α} (h1 : a ≠ b → A) (h2 : a = b → B) : condK A B t (.pure m (.bool (a != b))) :=
  condK_bool (fun h => h1 (bne_iff_ne.1 h)) (fun h => h2 (by simpa using h))
theorem condK_nbeq {t : Tag (A, B)} {α : Type} [BEq α] [LawfulBEq α] {a b : α} (h1 : a ≠ b → A) (h2 : a = b → B) : condK A B t (.pure m (.bool !(a == b))) :=
  condK_bne h1 h2
theorem condK_not {t : Tag (A, B)} {c : Bool} (h1 : c = false → A) (h2 : c = true → B) : condK A B t (.pure m (.bool !c)) :=
  condK_bool (fun h => h1 (by simpa using h)) (fun h => h2 (by simpa using h))
theorem guardK_bool {t : Tag (A, B)} {c : Bool} (h1 : c = true → A) (h2 : c = false → B) : guardK A B t (some c) := by
  cases c with
  | true => exact h1 rfl
  | false => exact h2 rfl
theorem guardK_dec {t : Tag (A, B)} {p : Prop} [Decidable p] (h1 : p → A) (h2 : ¬ p → B) : guardK A B t (some (decide p)) :=
  guardK_bool (fun h => h1 (of_decide_eq_true h)) (fun h => h2 (of_decide_eq_false h))
theorem guardK_ndec {t : Tag (A, B)} {p : Prop} [Decidable p] (h1 : ¬ p → A) (h2 : p → B) : guardK A B t (some (!decide p)) :=
  guardK_bool (fun h => h1 (by simpa using h)) (fun h => h2 (by simpa using h))
theorem guardK_beq {t : Tag (A, B)} {α : Type} [BEq α] [LawfulBEq α] {a b : α} (h1 : a = b → A) (h2 : a ≠ b → B) : guardK A B t (some (a == b)) :=
  guardK_bool (fun h => h1 (beq_iff_eq.1 h)) (fun h => h2 (by simpa using h))
theorem guardK_bne {t : Tag (A, B)} {α : Type} [BEq α] [LawfulBEq α] {a b : α} (h1 : a ≠ b → A) (h2 : a = b → B) : guardK A B t (some (a != b)) :=
  guardK_bool (fun h => h1 (bne_iff_ne.1 h)) (fun h => h2 (by simpa using h))
theorem guardK_nbeq {t : Tag (A, B)} {α : Type} [BEq α] [LawfulBEq α] {a b : α} (h1 : a ≠ b → A) (h2 : a = b → B) : guardK A B t (some (!(a == b))) :=
  guardK_bne h1 h2
theorem guardK_not {t : Tag (A, B)} {c : Bool} (h1 : c = false → A) (h2 : c = true → B) : guardK A B t (some (!c)) :=
  guardK_bool (fun h => h1 (by simpa using h)) (fun h => h2 (by simpa using h))
end
theorem dec_t {b : Bool} : decide (b = true) = b := by cases b <;> rfl
theorem dec_f {b : Bool} : decide (b = false) = !b := by cases b <;> rfl

section
variable {P : Program} {E : Env} {base : Nat} {ty : TypeId} {pos : String} {af : Array Edge} {ev : Operand → SV} {look : Nat → Option Ob} {K : Eff → Prop}
variable {top : Nat} {ann : Nat → List Nat} {reg : Nat → List (List Nat)} {S : Store} {sl : Slots} {Q : Ex → Slots → Store → Prop}
variable {ops : Array Oper} {es : List Keys} {K' : Slots → Store → List Keys → Prop} {K1 : Slots → Store → Prop}
theorem x_condK (x : Operand) (a b : Code) : wpX P E base top ann reg (.cond x a b) sl S Q = condK (wpX P E base top ann reg a sl S Q) (wpX P E base top ann reg b sl S Q) ⟨⟩ (evalO E (get sl) x) := x_cond x a b
theorem o_guardK (d j : Nat) (b : Bool) (op : Op) (r : List Oper) : wpOpsV P E base top ops (⟨some d, op, ty, pos, af, some (j, b)⟩ :: r) sl S es K' = (¬ top < base + 16 * d + 16 ∧ guardK
    (wpAct P E base ⟨some d, op, ty, pos, af, some (j, b)⟩ (evalO E (get sl)) (get S) (kk (fun e => wpOpsV P E base top ops r ((d, e.res) :: sl) (e.wr ++ S) (keysE e :: es) K') ⟨⟩))
    (wpOpsV P E base top ops r ((d, .tuple []) :: sl) S (([], some []) :: es) K') ⟨⟩ (yieldedV ops (get sl) j b)) := o_guard d j b op r
theorem p_guardK (d j : Nat) (b : Bool) (op : Op) (r : List Oper) : wpOpsP P E base top ops (⟨some d, op, ty, pos, af, some (j, b)⟩ :: r) sl S K1 = (¬ top < base + 16 * d + 16 ∧ guardK
    (wpAct P E base ⟨some d, op, ty, pos, af, some (j, b)⟩ (evalO E (get sl)) (get S) (kk (fun e => wpOpsP P E base top ops r ((d, e.res) :: sl) (e.wr ++ S) K1) ⟨⟩))
    (wpOpsP P E base top ops r ((d, .tuple []) :: sl) S K1) ⟨⟩ (yieldedV ops (get sl) j b)) := p_guard d j b op r
theorem x_drawnK (id : Nat) (ops : Array Oper) : wpX P E base top ann reg (.region id ops true) sl S Q = wpOpsV P E base top ops ops.toList sl S [] (kk (fun s S es => drawK (Q .normal s S) ⟨⟩ (turnK 0 es (reg id))) ⟨⟩) := rfl
end
end Go.Proofs.YticdhmcbooabaaaDoor.V
