/- V29: an evaluation in which some calls are told beforehand. No claim. -/
import Derived.Test.YticdhmcbooabaaaDoor28
set_option linter.unusedVariables false
set_option linter.unusedSimpArgs false
namespace Go.Proofs.YticdhmcbooabaaaDoor.V
open Go

section
variable {P : Program} {E : Env}

variable (P E) in
/-- Calls that are told: each is what the text comes to. -/
def CfOk (cf : CF) : Prop := ∀ g a S r, cf g a S = some r → ∃ n, callF P E n g a S = some r

theorem callV_ex {cf : CF} (h : CfOk P E cf) {base nk : Nat} {br : Bool} {look : Nat → Option Ob} {g : FuncId} {args : List SV} {e : Eff} (he : callV cf base nk br look g args = some e) : ∃ n, callV (callF P E n) base nk br look g args = some e := by
  unfold callV at he
  split at he
  · cases he
  · rename_i as1 δ h1
    simp only at he
    split at he
    · rename_i hrs
      split at he
      · cases he
      · rename_i res S1 hc
        obtain ⟨n, hn⟩ := h _ _ _ _ hc
        refine ⟨n, ?_⟩
        unfold callV
        simp only [h1, hrs, hn]
        exact he
    · rename_i x xs hrs
      split at he
      · cases he
      · rename_i res S1 hc
        obtain ⟨n, hn⟩ := h _ _ _ _ hc
        refine ⟨n, ?_⟩
        simp only [hrs] at he hn
        unfold callV
        simp only [h1, hrs, hn]
        exact he

theorem act_ex {cf : CF} (h : CfOk P E cf) {base : Nat} {o : Oper} {ev : Operand → SV} {look : Nat → Option Ob} {e : Eff} (he : act P E cf base o ev look = some e) : ∃ n, act P E (callF P E n) base o ev look = some e := by
  unfold act at he ⊢
  simp only at he ⊢
  split at he <;> try exact ⟨0, he⟩
  rename_i c ho
  split at he
  · split at he
    · split at he
      · exact ⟨0, he⟩
      · exact callV_ex h he
    · cases he
  · exact ⟨0, he⟩
  · cases he

theorem stepV_ex {cf : CF} (h : CfOk P E cf) {base top : Nat} {ops : Array Oper} {o : Oper} {σ : St} {r : St × Eff} (he : stepV P E cf base top ops o σ = some r) : ∃ n, stepV P E (callF P E n) base top ops o σ = some r := by
  unfold stepV at he
  split at he
  · cases he
  · rename_i ht
    split at he
    · cases he
    · rename_i hw
      refine ⟨0, ?_⟩
      unfold stepV
      rw [if_neg ht, hw]
      exact he
    · rename_i hw
      split at he
      · rename_i e hact
        obtain ⟨n, hn⟩ := act_ex h hact
        refine ⟨n, ?_⟩
        unfold stepV
        rw [if_neg ht, hw]
        simp only
        rw [hn]
        exact he
      · cases he

theorem runOps_ex {cf : CF} (h : CfOk P E cf) {base top : Nat} {ops : Array Oper} {l : List Oper} : ∀ {σ r : St}, runOps P E cf base top ops l σ = some r → ∃ n, runOps P E (callF P E n) base top ops l σ = some r := by
  induction l with
  | nil => intro σ r he; exact ⟨0, he⟩
  | cons o l ih =>
    intro σ r he
    simp only [runOps] at he
    split at he
    · rename_i σ1 e hst
      obtain ⟨n, hn⟩ := stepV_ex h hst
      obtain ⟨n', hn'⟩ := ih he
      refine ⟨max n n', ?_⟩
      simp only [runOps]
      rw [stepV_mono (callF_mono (Nat.le_max_left n n')) hn]
      exact runOps_mono (callF_mono (Nat.le_max_right n n')) hn'
    · cases he

theorem traceOps_ex {cf : CF} (h : CfOk P E cf) {base top : Nat} {ops : Array Oper} {l : List Oper} : ∀ {σ : St} {r : St × List Eff}, traceOps P E cf base top ops l σ = some r → ∃ n, traceOps P E (callF P E n) base top ops l σ = some r := by
  induction l with
  | nil => intro σ r he; exact ⟨0, he⟩
  | cons o l ih =>
    intro σ r he
    simp only [traceOps] at he
    split at he
    · rename_i σ1 e hst
      split at he
      · rename_i σ2 es hr
        obtain ⟨n, hn⟩ := stepV_ex h hst
        obtain ⟨n', hn'⟩ := ih hr
        refine ⟨max n n', ?_⟩
        simp only [traceOps]
        rw [stepV_mono (callF_mono (Nat.le_max_left n n')) hn]
        simp only
        rw [traceOps_mono (callF_mono (Nat.le_max_right n n')) hn']
        exact he
      · cases he
    · cases he

theorem exec_ex {cf : CF} (h : CfOk P E cf) {base top : Nat} {ann : Nat → List Nat} {reg : Nat → List (List Nat)} : ∀ {n : Nat} {c : Code} {σ : St} {r : Ex × St}, exec P E cf base top ann reg n c σ = some r → ∃ k, exec P E (callF P E k) base top ann reg n c σ = some r := by
  intro n
  induction n with
  | zero => intro c σ r he; simp [exec] at he
  | succ n ih =>
    intro c σ r he
    cases c with
    | skip => exact ⟨0, he⟩
    | label l => exact ⟨0, he⟩
    | exit id => exact ⟨0, he⟩
    | ret => exact ⟨0, he⟩
    | region id ops draw =>
      cases draw with
      | false =>
        simp only [exec] at he
        split at he
        · rename_i σ1 h1
          obtain ⟨k, hk⟩ := runOps_ex h h1
          refine ⟨k, ?_⟩
          simp only [exec]
          rw [hk]
          exact he
        · cases he
      | true =>
        simp only [exec] at he
        split at he
        · rename_i σ1 es h1
          obtain ⟨k, hk⟩ := traceOps_ex h h1
          refine ⟨k, ?_⟩
          simp only [exec]
          rw [hk]
          exact he
        · cases he
    | seq a b =>
      simp only [exec] at he
      split at he
      · rename_i σ1 h1
        obtain ⟨k, hk⟩ := ih h1
        obtain ⟨k', hk'⟩ := ih he
        refine ⟨max k k', ?_⟩
        simp only [exec]
        rw [exec_mono (callF_mono (Nat.le_max_left k k')) (Nat.le_refl n) hk]
        exact exec_mono (callF_mono (Nat.le_max_right k k')) (Nat.le_refl n) hk'
      · rename_i r' hr
        obtain ⟨k, hk⟩ := ih he
        refine ⟨k, ?_⟩
        simp only [exec]
        rw [hk]
        obtain ⟨ex, σ1⟩ := r
        cases ex with
        | normal => exact absurd he (hr σ1)
        | _ => rfl
    | cond x a b =>
      simp only [exec] at he
      split at he
      · rename_i m t hx
        cases t with
        | true =>
          obtain ⟨k, hk⟩ := ih he
          exact ⟨k, by simp only [exec, hx, if_true]; exact hk⟩
        | false =>
          obtain ⟨k, hk⟩ := ih he
          exact ⟨k, by simp only [exec, hx, Bool.false_eq_true, if_false]; exact hk⟩
      · cases he
    | block id a =>
      simp only [exec] at he
      split at he
      · rename_i j σ1 h1
        obtain ⟨k, hk⟩ := ih h1
        refine ⟨k, ?_⟩
        simp only [exec]
        rw [hk]
        exact he
      · rename_i r' hr
        obtain ⟨k, hk⟩ := ih he
        refine ⟨k, ?_⟩
        simp only [exec]
        rw [hk]
        obtain ⟨ex, σ1⟩ := r
        cases ex with
        | exit j => exact absurd he (hr j σ1)
        | _ => rfl
    | loop a =>
      simp only [exec] at he
      split at he
      · rename_i σ1 h1
        obtain ⟨k, hk⟩ := ih h1
        obtain ⟨k', hk'⟩ := ih he
        refine ⟨max k k', ?_⟩
        simp only [exec]
        rw [exec_mono (callF_mono (Nat.le_max_left k k')) (Nat.le_refl n) hk]
        exact exec_mono (callF_mono (Nat.le_max_right k k')) (Nat.le_refl n) hk'
      · rename_i r' hr
        obtain ⟨k, hk⟩ := ih he
        refine ⟨k, ?_⟩
        simp only [exec]
        rw [hk]
        obtain ⟨ex, σ1⟩ := r
        cases ex with
        | normal => exact absurd he (hr σ1)
        | _ => rfl
    | _ => simp [exec] at he

variable (P E) in
/-- A call whose callees are told by 'cf'. -/
def bodyF (cf : CF) (n : Nat) (g : FuncId) (args : List SV) (S0 : Store) : Option (SV × Store) :=
    match P.funcs[g]? with
    | some fn => match fn.body with
      | some c =>
        if fn.ntmps < args.length then none else
        let n0 := S0.length
        match exec P E cf n0 (n0 + 16 * fn.ntmps) (E.ann g) (E.reg g) n c ⟨argSlots 0 args, S0⟩ with
        | some (.normal, σ) | some (.ret, σ) => match resAll P n0 σ fn.results.toList with
          | some (vs, S) => let r := leave n0 (single vs) S; some (r.1, reset n0 r.1 r.2)
          | none => none
        | _ => none
      | none => none
    | none => none

theorem bodyF_ok {cf : CF} (h : CfOk P E cf) {n : Nat} : CfOk P E (bodyF P E cf n) := by
  intro g a S r he
  unfold bodyF at he
  split at he
  · rename_i fn hf
    split at he
    · rename_i c hb
      split at he
      · cases he
      · rename_i hnt
        simp only at he
        split at he
        · rename_i σ h1
          obtain ⟨k, hk⟩ := exec_ex h h1
          refine ⟨max n k + 1, ?_⟩
          unfold callF
          rw [hf]
          simp only
          rw [hb]
          simp only
          rw [if_neg hnt, exec_mono (callF_mono (Nat.le_max_right n k)) (Nat.le_max_left n k) hk]
          exact he
        · rename_i σ h1
          obtain ⟨k, hk⟩ := exec_ex h h1
          refine ⟨max n k + 1, ?_⟩
          unfold callF
          rw [hf]
          simp only
          rw [hb]
          simp only
          rw [if_neg hnt, exec_mono (callF_mono (Nat.le_max_right n k)) (Nat.le_max_left n k) hk]
          exact he
        · cases he
    · cases he
  · cases he

variable (P E) in
/-- The evaluator, in which 'hk' tells what it knows. -/
def callH (hk : CF) : Nat → CF
  | 0, _, _, _ => none
  | n + 1, g, a, S => match hk g a S with
    | some r => some r
    | none => bodyF P E (callH hk n) n g a S

theorem callH_ok {hk : CF} (h : CfOk P E hk) : ∀ (n : Nat), CfOk P E (callH P E hk n) := by
  intro n
  induction n with
  | zero => intro g a S r he; cases he
  | succ n ih =>
    intro g a S r he
    unfold callH at he
    split at he
    · rename_i r' hr
      cases he
      exact h _ _ _ _ hr
    · exact bodyF_ok ih _ _ _ _ he

theorem runs_hook {hk : CF} (h : CfOk P E hk) (n : Nat) {g : FuncId} {a : List SV} {S : Store} {res : SV} {S1 : Store} (he : callH P E hk n g a S = some (res, S1)) : Runs P E g a S res S1 := callH_ok h n _ _ _ _ he

end
end Go.Proofs.YticdhmcbooabaaaDoor.V
