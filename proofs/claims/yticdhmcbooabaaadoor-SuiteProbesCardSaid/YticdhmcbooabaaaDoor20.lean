/- V20: what a text comes to, told forward (a calculus over the evaluator). No claim. -/
import Derived.Test.YticdhmcbooabaaaDoor19
set_option linter.unusedVariables false
set_option linter.unusedSimpArgs false
namespace Go.Proofs.YticdhmcbooabaaaDoor.V
open Go

section
variable {P : Program} {E : Env}

abbrev CF := FuncId → List SV → Store → Option (SV × Store)
def CfLe (cf cf' : CF) : Prop := ∀ g a S r, cf g a S = some r → cf' g a S = some r

theorem callV_mono {cf cf' : CF} (h : CfLe cf cf') {base nk : Nat} {br : Bool} {look : Nat → Option Ob} {g : FuncId} {args : List SV} {e : Eff} (he : callV cf base nk br look g args = some e) : callV cf' base nk br look g args = some e := by
  unfold callV at he ⊢
  split at he
  · cases he
  · simp only at he ⊢
    split at he
    · rename_i hrs
      split at he
      · cases he
      · rename_i res S1 hc
        rw [h _ _ _ _ hc]
        exact he
    · split at he
      · cases he
      · rename_i res S1 hc
        rw [h _ _ _ _ hc]
        exact he

theorem act_mono {cf cf' : CF} (h : CfLe cf cf') {base : Nat} {o : Oper} {ev : Operand → SV} {look : Nat → Option Ob} {e : Eff} (he : act P E cf base o ev look = some e) : act P E cf' base o ev look = some e := by
  unfold act at he ⊢
  simp only at he ⊢
  split at he <;> try exact he
  rename_i c ho
  split at he
  · split at he
    · split at he
      · exact he
      · exact callV_mono h he
    · cases he
  · exact he
  · cases he

theorem stepV_mono {cf cf' : CF} (h : CfLe cf cf') {base top : Nat} {ops : Array Oper} {o : Oper} {σ : St} {r : St × Eff} (he : stepV P E cf base top ops o σ = some r) : stepV P E cf' base top ops o σ = some r := by
  unfold stepV at he ⊢
  split at he
  · cases he
  · rename_i ht
    rw [if_neg ht]
    split at he
    · cases he
    · exact he
    · split at he
      · rename_i e hact
        rw [act_mono h hact]
        exact he
      · cases he

theorem runOps_mono {cf cf' : CF} (h : CfLe cf cf') {base top : Nat} {ops : Array Oper} {l : List Oper} : ∀ {σ r : St}, runOps P E cf base top ops l σ = some r → runOps P E cf' base top ops l σ = some r := by
  induction l with
  | nil => intro σ r he; exact he
  | cons o l ih =>
    intro σ r he
    simp only [runOps] at he ⊢
    split at he
    · rename_i σ1 e hst
      rw [stepV_mono h hst]
      exact ih he
    · cases he

theorem traceOps_mono {cf cf' : CF} (h : CfLe cf cf') {base top : Nat} {ops : Array Oper} {l : List Oper} : ∀ {σ : St} {r : St × List Eff}, traceOps P E cf base top ops l σ = some r → traceOps P E cf' base top ops l σ = some r := by
  induction l with
  | nil => intro σ r he; exact he
  | cons o l ih =>
    intro σ r he
    simp only [traceOps] at he ⊢
    split at he
    · rename_i σ1 e hst
      rw [stepV_mono h hst]
      simp only
      split at he
      · rename_i σ2 es hr
        rw [ih hr]
        exact he
      · cases he
    · cases he

theorem exec_mono {cf cf' : CF} (h : CfLe cf cf') {base top : Nat} {ann : Nat → List Nat} {reg : Nat → List (List Nat)} : ∀ {n n' : Nat} {c : Code} {σ : St} {r : Ex × St}, n ≤ n' → exec P E cf base top ann reg n c σ = some r → exec P E cf' base top ann reg n' c σ = some r := by
  intro n
  induction n with
  | zero => intro n' c σ r _ he; simp [exec] at he
  | succ n ih =>
    intro n' c σ r hn he
    obtain ⟨n', rfl⟩ : ∃ m, n' = m + 1 := ⟨n' - 1, by omega⟩
    have hn : n ≤ n' := by omega
    cases c with
    | skip => exact he
    | label l => exact he
    | exit id => exact he
    | ret => exact he
    | region id ops draw =>
      cases draw with
      | false =>
        simp only [exec] at he ⊢
        split at he
        · rename_i σ1 h1
          rw [runOps_mono h h1]
          exact he
        · cases he
      | true =>
        simp only [exec] at he ⊢
        split at he
        · rename_i σ1 es h1
          rw [traceOps_mono h h1]
          exact he
        · cases he
    | seq a b =>
      simp only [exec] at he ⊢
      split at he
      · rename_i σ1 h1
        rw [ih hn h1]
        exact ih hn he
      · rename_i r' hr
        rw [ih hn he]
        obtain ⟨ex, σ1⟩ := r
        cases ex with
        | normal => exact absurd he (hr σ1)
        | _ => rfl
    | cond x a b =>
      simp only [exec] at he ⊢
      split at he
      · rename_i m t hx
        cases t with
        | true => exact ih hn he
        | false => exact ih hn he
      · cases he
    | block id a =>
      simp only [exec] at he ⊢
      split at he
      · rename_i j σ1 h1
        rw [ih hn h1]
        exact he
      · rename_i r' hr
        rw [ih hn he]
        obtain ⟨ex, σ1⟩ := r
        cases ex with
        | exit j => exact absurd he (hr j σ1)
        | _ => rfl
    | loop a =>
      simp only [exec] at he ⊢
      split at he
      · rename_i σ1 h1
        rw [ih hn h1]
        exact ih hn he
      · rename_i r' hr
        rw [ih hn he]
        obtain ⟨ex, σ1⟩ := r
        cases ex with
        | normal => exact absurd he (hr σ1)
        | _ => rfl
    | _ => simp [exec] at he

theorem callF_mono1 : ∀ (n : Nat), CfLe (callF P E n) (callF P E (n + 1)) := by
  intro n
  induction n with
  | zero => intro g a S r h; simp [callF] at h
  | succ n ih =>
    intro g a S r h
    unfold callF at h ⊢
    split at h
    · rename_i fn hf
      split at h
      · rename_i c hb
        split at h
        · cases h
        · rename_i hnt
          rw [if_neg hnt]
          simp only at h ⊢
          split at h
          · rename_i σ h1
            rw [exec_mono ih (Nat.le_succ n) h1]
            exact h
          · rename_i σ h1
            rw [exec_mono ih (Nat.le_succ n) h1]
            exact h
          · cases h
      · cases h
    · cases h

theorem callF_mono {n n' : Nat} (h : n ≤ n') : CfLe (callF P E n) (callF P E n') := by
  induction h with
  | refl => exact fun _ _ _ _ h => h
  | step _ ih => exact fun g a S r hr => callF_mono1 _ g a S r (ih g a S r hr)

variable (P E)

/-- What is to come, where no rewriter looks. -/
structure Tag {α : Type} (a : α) : Type where
  mk ::
def kk {α : Type} (f : α) (_ : Tag f) : α := f
/-- What is to be shown where a loop comes round. -/
def again (p : Slots → Store → Prop) (_ : Tag p) (s : Slots) (S : Store) : Prop := p s S
theorem again_mk {p : Slots → Store → Prop} {t : Tag p} {s : Slots} {S : Store} (h : p s S) : again p t s S := h

/-- A call, with as much fuel as it needs. -/
def Runs (g : FuncId) (args : List SV) (S0 : Store) (res : SV) (S1 : Store) : Prop := ∃ n, callF P E n g args S0 = some (res, S1)

/-- One operation. -/
def wpAct (base : Nat) (o : Oper) (ev : Operand → SV) (look : Nat → Option Ob) (K : Eff → Prop) : Prop := ∃ n e, act P E (callF P E n) base o ev look = some e ∧ K e

/-- What is held of an effect, for the turns: the keys alone. -/
abbrev Keys := List Nat × Option (List Nat)
def keysE (e : Eff) : Keys := (e.wr.map (·.1), e.rd)

def quietK (a b : Keys) : Bool :=
  (a.1.isEmpty && b.1.isEmpty) || (a.1.isEmpty && a.2 == some []) || (b.1.isEmpty && b.2 == some []) ||
  match a.2, b.2 with
  | some ra, some rb => disj a.1 b.1 && disj a.1 rb && disj b.1 ra
  | _, _ => false

theorem quietK_eq (a b : Eff) : quietK (keysE a) (keysE b) = quietE a b := by
  unfold quietK quietE keysE
  simp only [List.isEmpty_map]
  split <;> simp_all

def turnsK (i : Nat) (a : Keys) : List Keys → List (List Nat) → Bool
  | b :: r, l :: anc => (l.contains i || quietK a b) && turnsK i a r anc
  | _, _ => true

def turnK : Nat → List Keys → List (List Nat) → Bool
  | i, a :: r, _ :: anc => turnsK i a r anc && turnK (i + 1) r anc
  | _, _, _ => true

theorem turnsK_eq (i : Nat) (a : Eff) : ∀ (es : List Eff) (anc : List (List Nat)), turnsK i (keysE a) (es.map keysE) anc = turnsWith i a es anc := by
  intro es
  induction es with
  | nil => intro anc; cases anc <;> rfl
  | cons e r ih => intro anc; cases anc <;> simp [turnsK, turnsWith, quietK_eq, ih]

theorem turnK_eq : ∀ (es : List Eff) (i : Nat) (anc : List (List Nat)), turnK i (es.map keysE) anc = turnAll i es anc := by
  intro es
  induction es with
  | nil => intro i anc; cases anc <;> rfl
  | cons e r ih => intro i anc; cases anc <;> simp [turnK, turnAll, turnsK_eq, ih]

/-- The operations of a region, in the text's order. -/
def wpOpsP (base top : Nat) (ops : Array Oper) : List Oper → Slots → Store → (Slots → Store → Prop) → Prop
  | [], s, S, K => K s S
  | o :: r, s, S, K => ¬ top < base + 16 * (o.dst.getD 0) + 16 ∧ match wantedV ops o (get s) with
    | none => False
    | some false => wpOpsP base top ops r (putS s o.dst (.tuple [])) S K
    | some true => wpAct P E base o (evalO E (get s)) (get S) fun e => wpOpsP base top ops r (putS s o.dst e.res) (e.wr ++ S) K

/-- The same, with the keys of what each one did. -/
def wpOpsV (base top : Nat) (ops : Array Oper) : List Oper → Slots → Store → List Keys → (Slots → Store → List Keys → Prop) → Prop
  | [], s, S, es, K => K s S es.reverse
  | o :: r, s, S, es, K => ¬ top < base + 16 * (o.dst.getD 0) + 16 ∧ match wantedV ops o (get s) with
    | none => False
    | some false => wpOpsV base top ops r (putS s o.dst (.tuple [])) S (([], some []) :: es) K
    | some true => wpAct P E base o (evalO E (get s)) (get S) fun e => wpOpsV base top ops r (putS s o.dst e.res) (e.wr ++ S) (keysE e :: es) K

/-- A loop: some number of rounds. -/
def wpLoop (base top : Nat) (ann : Nat → List Nat) (reg : Nat → List (List Nat)) (c : Code) (s : Slots) (S : Store) (Q : Ex → Slots → Store → Prop) : Prop :=
  ∃ n ex σ1, exec P E (callF P E n) base top ann reg n (.loop c) ⟨s, S⟩ = some (ex, σ1) ∧ Q ex σ1.slots σ1.store

def thenV (K : Slots → Store → Prop) (Q : Ex → Slots → Store → Prop) : Ex → Slots → Store → Prop
  | .normal, s, S => K s S
  | e, s, S => Q e s S

def blockV (id : Nat) (Q : Ex → Slots → Store → Prop) : Ex → Slots → Store → Prop
  | .exit j, s, S => if j = id then Q .normal s S else Q (.exit j) s S
  | e, s, S => Q e s S

def wpX (base top : Nat) (ann : Nat → List Nat) (reg : Nat → List (List Nat)) : Code → Slots → Store → (Ex → Slots → Store → Prop) → Prop
  | .skip, s, S, Q => Q .normal s S
  | .label _, s, S, Q => Q .normal s S
  | .region _ ops false, s, S, Q => wpOpsP P E base top ops ops.toList s S fun s S => Q .normal s S
  | .region id ops true, s, S, Q => wpOpsV P E base top ops ops.toList s S [] fun s S es => turnK 0 es (reg id) = true ∧ Q .normal s S
  | .seq a b, s, S, Q => wpX base top ann reg a s S (thenV (fun s S => wpX base top ann reg b s S Q) Q)
  | .cond x a b, s, S, Q => match evalO E (get s) x with
    | .pure _ (.bool t) => if t then wpX base top ann reg a s S Q else wpX base top ann reg b s S Q
    | _ => False
  | .block id a, s, S, Q => wpX base top ann reg a s S (blockV id Q)
  | .loop a, s, S, Q => wpLoop P E base top ann reg a s S Q
  | .exit id, s, S, Q => Q (.exit id) s S
  | .ret, s, S, Q => Q .ret s S
  | _, _, _, _ => False

variable {P E}

theorem wpOpsP_run {base top : Nat} {ops : Array Oper} : ∀ {l : List Oper} {s : Slots} {S : Store} {K : Slots → Store → Prop}, wpOpsP P E base top ops l s S K →
    ∃ n σ1, runOps P E (callF P E n) base top ops l ⟨s, S⟩ = some σ1 ∧ K σ1.slots σ1.store := by
  intro l
  induction l with
  | nil =>
    intro s S K h
    exact ⟨0, ⟨s, S⟩, rfl, h⟩
  | cons o r ih =>
    intro s S K h
    obtain ⟨ht, h⟩ := h
    split at h
    · cases h
    · rename_i hw
      obtain ⟨n, σ1, h2, h3⟩ := ih h
      have hst : stepV P E (callF P E n) base top ops o ⟨s, S⟩ = some (⟨putS s o.dst (.tuple []), S⟩, { res := .tuple [] }) := by
        unfold stepV
        rw [if_neg ht, hw]
      exact ⟨n, σ1, by simp only [runOps, hst, h2], h3⟩
    · rename_i hw
      obtain ⟨n0, e, ha, h⟩ := h
      obtain ⟨n1, σ1, h2, h3⟩ := ih h
      have hm0 := callF_mono (P := P) (E := E) (Nat.le_max_left n0 n1)
      have hm1 := callF_mono (P := P) (E := E) (Nat.le_max_right n0 n1)
      have hst : stepV P E (callF P E (max n0 n1)) base top ops o ⟨s, S⟩ = some (⟨putS s o.dst e.res, e.wr ++ S⟩, e) := by
        unfold stepV
        rw [if_neg ht, hw]
        simp only
        rw [act_mono hm0 ha]
      exact ⟨max n0 n1, σ1, by simp only [runOps, hst, runOps_mono hm1 h2], h3⟩

theorem wpOpsV_run {base top : Nat} {ops : Array Oper} : ∀ {l : List Oper} {s : Slots} {S : Store} {es : List Keys} {K : Slots → Store → List Keys → Prop}, wpOpsV P E base top ops l s S es K →
    ∃ n σ1 es1, traceOps P E (callF P E n) base top ops l ⟨s, S⟩ = some (σ1, es1) ∧ K σ1.slots σ1.store (es.reverse ++ es1.map keysE) := by
  intro l
  induction l with
  | nil =>
    intro s S es K h
    exact ⟨0, ⟨s, S⟩, [], rfl, by rw [List.map_nil, List.append_nil]; exact h⟩
  | cons o r ih =>
    intro s S es K h
    obtain ⟨ht, h⟩ := h
    split at h
    · cases h
    · rename_i hw
      obtain ⟨n, σ1, es1, h1, h3⟩ := ih h
      have hst : stepV P E (callF P E n) base top ops o ⟨s, S⟩ = some (⟨putS s o.dst (.tuple []), S⟩, { res := .tuple [] }) := by
        unfold stepV
        rw [if_neg ht, hw]
      refine ⟨n, σ1, { res := .tuple [] } :: es1, ?_, by simpa [keysE] using h3⟩
      simp only [traceOps, hst, h1]
    · rename_i hw
      obtain ⟨n0, e, ha, h⟩ := h
      obtain ⟨n1, σ1, es1, h1, h3⟩ := ih h
      have hm0 := callF_mono (P := P) (E := E) (Nat.le_max_left n0 n1)
      have hm1 := callF_mono (P := P) (E := E) (Nat.le_max_right n0 n1)
      have hst : stepV P E (callF P E (max n0 n1)) base top ops o ⟨s, S⟩ = some (⟨putS s o.dst e.res, e.wr ++ S⟩, e) := by
        unfold stepV
        rw [if_neg ht, hw]
        simp only
        rw [act_mono hm0 ha]
      refine ⟨max n0 n1, σ1, e :: es1, ?_, by simpa using h3⟩
      simp only [traceOps, hst, traceOps_mono hm1 h1]

theorem wpX_run {base top : Nat} {ann : Nat → List Nat} {reg : Nat → List (List Nat)} : ∀ (c : Code) {s : Slots} {S : Store} {Q : Ex → Slots → Store → Prop}, wpX P E base top ann reg c s S Q →
    ∃ n ex σ1, exec P E (callF P E n) base top ann reg n c ⟨s, S⟩ = some (ex, σ1) ∧ Q ex σ1.slots σ1.store := by
  intro c
  induction c with
  | skip => intro s S Q h; exact ⟨1, .normal, ⟨s, S⟩, rfl, h⟩
  | label l => intro s S Q h; exact ⟨1, .normal, ⟨s, S⟩, rfl, h⟩
  | exit id => intro s S Q h; exact ⟨1, .exit id, ⟨s, S⟩, rfl, h⟩
  | ret => intro s S Q h; exact ⟨1, .ret, ⟨s, S⟩, rfl, h⟩
  | region id ops draw =>
    intro s S Q h
    cases draw with
    | false =>
      obtain ⟨n, σ1, h2, h3⟩ := wpOpsP_run h
      refine ⟨n + 1, .normal, σ1, ?_, h3⟩
      simp only [exec]
      rw [runOps_mono (callF_mono (Nat.le_succ n)) h2]
    | true =>
      obtain ⟨n, σ1, es1, h1, h3⟩ := wpOpsV_run h
      obtain ⟨h3, h4⟩ := h3
      refine ⟨n + 1, .normal, σ1, ?_, h4⟩
      simp only [exec]
      rw [traceOps_mono (callF_mono (Nat.le_succ n)) h1]
      simp only [List.reverse_nil, List.nil_append, turnK_eq] at h3
      simp only
      rw [if_pos h3]
  | seq a b iha ihb =>
    intro s S Q h
    obtain ⟨n, ex, σ1, h1, h2⟩ := iha h
    cases ex with
    | normal =>
      obtain ⟨n', ex', σ2, h3, h4⟩ := ihb h2
      have q1 := exec_mono (callF_mono (P := P) (E := E) (Nat.le_trans (Nat.le_max_left n n') (Nat.le_succ _))) (Nat.le_max_left n n') h1
      have q2 := exec_mono (callF_mono (P := P) (E := E) (Nat.le_trans (Nat.le_max_right n n') (Nat.le_succ _))) (Nat.le_max_right n n') h3
      refine ⟨max n n' + 1, ex', σ2, ?_, h4⟩
      simp only [exec]
      rw [q1]
      exact q2
    | exit j =>
      have q1 := exec_mono (callF_mono (P := P) (E := E) (Nat.le_succ n)) (Nat.le_refl n) h1
      refine ⟨n + 1, .exit j, σ1, ?_, h2⟩
      simp only [exec]
      rw [q1]
    | ret =>
      have q1 := exec_mono (callF_mono (P := P) (E := E) (Nat.le_succ n)) (Nat.le_refl n) h1
      refine ⟨n + 1, .ret, σ1, ?_, h2⟩
      simp only [exec]
      rw [q1]
  | cond x a b iha ihb =>
    intro s S Q h
    simp only [wpX] at h
    split at h
    · rename_i m t hx
      cases t with
      | true =>
        obtain ⟨n, ex, σ1, h1, h2⟩ := iha h
        refine ⟨n + 1, ex, σ1, ?_, h2⟩
        simp only [exec, hx, if_true]
        exact exec_mono (callF_mono (P := P) (E := E) (Nat.le_succ n)) (Nat.le_refl n) h1
      | false =>
        obtain ⟨n, ex, σ1, h1, h2⟩ := ihb h
        refine ⟨n + 1, ex, σ1, ?_, h2⟩
        simp only [exec, hx, Bool.false_eq_true, if_false]
        exact exec_mono (callF_mono (P := P) (E := E) (Nat.le_succ n)) (Nat.le_refl n) h1
    · cases h
  | block id a iha =>
    intro s S Q h
    obtain ⟨n, ex, σ1, h1, h2⟩ := iha h
    have q1 := exec_mono (callF_mono (P := P) (E := E) (Nat.le_succ n)) (Nat.le_refl n) h1
    cases ex with
    | normal => exact ⟨n + 1, .normal, σ1, by simp only [exec]; rw [q1], h2⟩
    | exit j =>
      simp only [blockV] at h2
      by_cases e : j = id
      · rw [if_pos e] at h2
        exact ⟨n + 1, .normal, σ1, by simp only [exec]; rw [q1]; simp only; rw [if_pos e], h2⟩
      · rw [if_neg e] at h2
        exact ⟨n + 1, .exit j, σ1, by simp only [exec]; rw [q1]; simp only; rw [if_neg e], h2⟩
    | ret => exact ⟨n + 1, .ret, σ1, by simp only [exec]; rw [q1], h2⟩
  | loop a iha =>
    intro s S Q h
    exact h
  | _ => intro s S Q h; exact h.elim

/-- Rounds by a measure, over the states at a loop's head. -/
theorem wpLoop_ind {base top : Nat} {ann : Nat → List Nat} {reg : Nat → List (List Nat)} {c : Code} {Q : Ex → Slots → Store → Prop} {α : Type} (head : α → St) (I : α → Prop) (μ : α → Nat)
    (round : ∀ a, I a → wpX P E base top ann reg c (head a).slots (head a).store (thenV (again (fun s S => ∃ a', I a' ∧ μ a' < μ a ∧ canon base top (ann (firstRegion c)) ⟨s, S⟩ = head a') ⟨⟩) Q)) :
    ∀ (a : α), I a → ∀ {s : Slots} {S : Store}, canon base top (ann (firstRegion c)) ⟨s, S⟩ = head a → wpLoop P E base top ann reg c s S Q := by
  have key : ∀ (k : Nat) (a : α), I a → μ a < k → ∀ {s : Slots} {S : Store}, canon base top (ann (firstRegion c)) ⟨s, S⟩ = head a → wpLoop P E base top ann reg c s S Q := by
    intro k
    induction k with
    | zero => intro a _ h; omega
    | succ k ih =>
      intro a hI hk s S hc
      obtain ⟨n, ex, σ1, h1, h2⟩ := wpX_run c (round a hI)
      cases ex with
      | normal =>
        obtain ⟨a', hI', hlt, hc'⟩ := h2
        obtain ⟨n', ex', σ2, h3, h4⟩ := ih a' hI' (by omega) hc'
        have q1 := exec_mono (callF_mono (P := P) (E := E) (Nat.le_trans (Nat.le_max_left n n') (Nat.le_succ _))) (Nat.le_max_left n n') h1
        have q2 := exec_mono (callF_mono (P := P) (E := E) (Nat.le_trans (Nat.le_max_right n n') (Nat.le_succ _))) (Nat.le_max_right n n') h3
        refine ⟨max n n' + 1, ex', σ2, ?_, h4⟩
        simp only [exec]
        rw [hc]
        have : (⟨(head a).slots, (head a).store⟩ : St) = head a := rfl
        rw [this] at q1
        rw [q1]
        exact q2
      | exit j =>
        have q1 := exec_mono (callF_mono (P := P) (E := E) (Nat.le_succ n)) (Nat.le_refl n) h1
        refine ⟨n + 1, .exit j, σ1, ?_, h2⟩
        simp only [exec]
        rw [hc]
        have : (⟨(head a).slots, (head a).store⟩ : St) = head a := rfl
        rw [this] at q1
        rw [q1]
      | ret =>
        have q1 := exec_mono (callF_mono (P := P) (E := E) (Nat.le_succ n)) (Nat.le_refl n) h1
        refine ⟨n + 1, .ret, σ1, ?_, h2⟩
        simp only [exec]
        rw [hc]
        have : (⟨(head a).slots, (head a).store⟩ : St) = head a := rfl
        rw [this] at q1
        rw [q1]
  exact fun a hI s S hc => key (μ a + 1) a hI (by omega) hc

/-- What a call hands back, as a whole. -/
def outV (P : Program) (n0 : Nat) (rs : List ResultVar) (s : Slots) (S : Store) : Option (SV × Store) :=
  match resAll P n0 ⟨s, S⟩ rs with
  | some (vs, S1) => let r := leave n0 (single vs) S1; some (r.1, reset n0 r.1 r.2)
  | none => none

def endV (P : Program) (n0 : Nat) (rs : List ResultVar) (res : SV) (S1 : Store) : Ex → Slots → Store → Prop
  | .normal, s, S | .ret, s, S => outV P n0 rs s S = some (res, S1)
  | .exit _, _, _ => False

theorem Runs.of {g : FuncId} {fn : Func} {c : Code} {args : List SV} {S0 : Store} {res : SV} {S1 : Store} (hf : P.funcs[g]? = some fn) (hb : fn.body = some c) (hn : args.length ≤ fn.ntmps)
    (h : wpX P E S0.length (S0.length + 16 * fn.ntmps) (E.ann g) (E.reg g) c (argSlots 0 args) S0 (endV P S0.length fn.results.toList res S1)) : Runs P E g args S0 res S1 := by
  obtain ⟨n, ex, σ, h1, h2⟩ := wpX_run c h
  refine ⟨n + 1, ?_⟩
  unfold callF
  rw [hf]
  simp only [hb]
  rw [if_neg (by omega)]
  rw [h1]
  cases ex with
  | normal => exact h2
  | ret => exact h2
  | exit j => exact h2.elim

/-- A call of a function to which no memory is handed. -/
theorem wpAct_call {base : Nat} {o : Oper} {ev : Operand → SV} {look : Nat → Option Ob} {K : Eff → Prop} {c : Call} {f : Operand} {g : FuncId} {caps as : List SV} {δ : Store} {res : SV} {S1 : Store}
    (hr : Runs P E g as [] res S1) (ho : o.op = .call c) (hc : c.callee = .value f) (hf : ev f = .clo g caps) (hi : E.intr g = none) (ha : argV base (E.byRef g) look (c.args.toList.map ev ++ caps) = some (as, δ)) (hn : refsL as = [])
    (hk : (freshKeys look (base + 16 * (o.dst.getD 0)) 16 && decide (S1.length ≤ 16)) = true)
    (h : K { res := ren (fun i => ((List.range S1.length).map (base + 16 * (o.dst.getD 0) + ·))[i]?) res,
             wr := backAll S1 (fun i => ((List.range S1.length).map (base + 16 * (o.dst.getD 0) + ·))[i]?) ((List.range S1.length).map (base + 16 * (o.dst.getD 0) + ·)) 0 ++ (if newV res && S1.all (fun p => newO p.2) then [] else δ),
             rd := some ((List.range 16).map (base + 16 * (o.dst.getD 0) + ·) ++ refsL (c.args.toList.map ev ++ caps)) }) : wpAct P E base o ev look K := by
  obtain ⟨n, hn'⟩ := hr
  refine ⟨n, _, ?_, h⟩
  unfold act
  simp only [ho, hc, hf, hi]
  unfold callV
  rw [ha]
  simp only [hn, hn']
  rw [if_pos hk]

end
end Go.Proofs.YticdhmcbooabaaaDoor.V
