/- V17: whole texts. No claim. -/
import Derived.Test.YticdhmcbooabaaaDoor16
import Derived.LoopN
set_option linter.unusedVariables false
set_option linter.unusedSimpArgs false
namespace Go.Proofs.YticdhmcbooabaaaDoor.V
open Go

section
variable {B n0 : Nat} {ρ : Emb} {G : Cs} {w : World} {S : Look} {P : Program} {E : Env}

def packF (n0 top : Nat) (ks : List Nat) : Nat → Option Nat := fun k => if k < n0 then some k else match idx ks k 0 with
  | some i => some (top + i)
  | none => none

def packG (n0 top : Nat) (ks : List Nat) : Nat → Option Nat := fun j => if j < n0 then some j else if top ≤ j then ks[j - top]? else none

def packE (n0 top : Nat) (ks : List Nat) (ρ : Emb) : Emb := fun j => (packG n0 top ks j).bind ρ
def packS (n0 top : Nat) (ks : List Nat) (f : Nat → Option Nat) (S : Look) : Look := fun j => (packG n0 top ks j).bind fun k => (S k).map (renO f)

theorem takeAll_get {look : Look} {f : Nat → Option Nat} {at_ : Nat → Nat} {c : Nat} (hat : ∀ n, at_ n = c + n) {ks : List Nat} : ∀ {n : Nat} (j : Nat), get (takeAll look f at_ ks n) j = if c + n ≤ j then (ks[j - (c + n)]?).bind fun k => (look k).map (renO f) else none := by
  induction ks with
  | nil => intro n j; simp [takeAll, get]
  | cons a r ih =>
    intro n j
    simp only [takeAll]
    have ih' := ih (n := n + 1) j
    by_cases e : c + n = j
    · subst e
      simp only [Nat.le_refl, if_true, Nat.sub_self, List.getElem?_cons_zero, Option.bind_some]
      cases ha : look a with
      | some ob => simp [get, hat]
      | none =>
        simp only [Option.map_none]
        rw [ih', if_neg (by omega)]
    · have hrhs : (if c + n ≤ j then ((a :: r)[j - (c + n)]?).bind fun k => (look k).map (renO f) else none) = if c + (n + 1) ≤ j then (r[j - (c + (n + 1))]?).bind fun k => (look k).map (renO f) else none := by
        by_cases h : c + n ≤ j
        · rw [if_pos h, if_pos (by omega), show j - (c + n) = (j - (c + (n + 1))) + 1 by omega]
          simp
        · rw [if_neg h, if_neg (by omega)]
      rw [hrhs, ← ih']
      cases ha : look a with
      | some ob =>
        simp only [get]
        rw [if_neg (by rw [hat]; exact e)]
      | none => rfl

theorem pack_store (n0 top : Nat) (h : n0 ≤ top) (ks : List Nat) (f : Nat → Option Nat) (S : Look) : get (takeAll S f id (List.range n0) 0 ++ takeAll S f (top + ·) ks 0) = packS n0 top ks f S := by
  funext j
  rw [get_append, takeAll_get (c := 0) (fun n => by simp), takeAll_get (c := top) (fun n => rfl)]
  unfold packS packG
  by_cases h1 : j < n0
  · simp only [Nat.zero_add, Nat.add_zero, Nat.zero_le, if_true, Nat.sub_zero]
    rw [List.getElem?_range h1, if_pos h1]
    simp only [Option.bind_some]
    cases hs : S j with
    | some ob => rfl
    | none => simp only [Option.map_none]; rw [if_neg (by omega)]
  · simp only [Nat.zero_add, Nat.add_zero, Nat.zero_le, if_true, Nat.sub_zero]
    rw [List.getElem?_eq_none (by simp; omega), if_neg h1]
    simp only [Option.bind_none]
    split
    · rfl
    · rfl

theorem pack_sound {ρ0 : Emb} {G0 : Cs} {w0 : World} {S0 : Look} (h : SInv ρ G B n0 w S) (hx : Ext All B n0 ρ0 G0 w0 S0 ρ G w S) (hS0 : ∀ k, S0 k ≠ none → k < n0) {ks : List Nat} (hnd : ks.Nodup) (hge : ∀ k ∈ ks, n0 ≤ k) {top : Nat} (ht : n0 ≤ top) :
    SInv (packE n0 top ks ρ) G B n0 w (packS n0 top ks (packF n0 top ks) S) ∧ Ext All B n0 ρ0 G0 w0 S0 (packE n0 top ks ρ) G w (packS n0 top ks (packF n0 top ks) S) ∧
    Ren (packF n0 top ks) ρ (packE n0 top ks ρ) n0 n0 S (packS n0 top ks (packF n0 top ks) S) := by
  have hA : ∀ j k, packG n0 top ks j = some k → packF n0 top ks k = some j := by
    intro j k hj
    unfold packG at hj
    unfold packF
    split at hj
    · rename_i h1
      cases hj
      rw [if_pos h1]
    · rename_i h1
      split at hj
      · rename_i h2
        have := hge k (List.mem_of_getElem? hj)
        rw [if_neg (by omega), idx_get hnd 0 hj]
        simp only [Option.some.injEq]
        omega
      · cases hj
  have hC : ∀ k j, packF n0 top ks k = some j → packG n0 top ks j = some k := by
    intro k j hk
    unfold packF at hk
    unfold packG
    split at hk
    · rename_i h1
      cases hk
      rw [if_pos h1]
    · rename_i h1
      split at hk
      · rename_i i hi
        cases hk
        have := (idx_some hi).2
        rw [if_neg (by omega), if_pos (by omega), show top + i - top = i by omega]
        simpa using this
      · cases hk
  have hn : ∀ k j, packF n0 top ks k = some j → (n0 ≤ j ↔ n0 ≤ k) := by
    intro k j hk
    unfold packF at hk
    split at hk
    · cases hk; rfl
    · rename_i h1
      split at hk
      · cases hk
        constructor <;> intro <;> omega
      · cases hk
  have hr : Ren (packF n0 top ks) ρ (packE n0 top ks ρ) n0 n0 S (packS n0 top ks (packF n0 top ks) S) := by
    refine ⟨fun k j hk => ?_, fun k j ob hk hs => ?_, fun k j z lim xs hk hs hj => (hn k j hk).1 hj⟩
    · simp [packE, hC k j hk]
    · simp [packS, hC k j hk, hs]
  refine ⟨⟨?_, ?_, h.gdef, ?_, ?_, ?_, ?_, h.bsz⟩, ⟨hx.g, ?_, ?_, ?_, ?_, hx.size, hx.os, hx.tape, hx.out⟩, hr⟩
  · intro i j b c c' hi hj
    unfold packE at hi hj
    cases gi : packG n0 top ks i with
    | none => rw [gi] at hi; cases hi
    | some ki =>
      cases gj : packG n0 top ks j with
      | none => rw [gj] at hj; cases hj
      | some kj =>
        rw [gi] at hi
        rw [gj] at hj
        have := h.inj ki kj b c c' hi hj
        subst this
        have e1 := hA i ki gi
        have e2 := hA j ki gj
        rw [e1] at e2
        exact Option.some.inj e2
  · intro j b c hj
    unfold packE at hj
    cases gj : packG n0 top ks j with
    | none => rw [gj] at hj; cases hj
    | some kj => rw [gj] at hj; exact h.lt kj b c hj
  · intro j b c ob o hj hs hg
    unfold packE at hj
    unfold packS at hs
    cases gj : packG n0 top ks j with
    | none => rw [gj] at hj; cases hj
    | some kj =>
      rw [gj] at hj hs
      simp only [Option.bind_some] at hj hs
      cases hs0 : S kj with
      | none => rw [hs0] at hs; cases hs
      | some ob0 =>
        rw [hs0] at hs
        cases hs
        rw [prot_ren]
        exact h.gobj kj b c ob0 o hj hs0 hg
  · intro j ob hs
    unfold packS at hs
    cases gj : packG n0 top ks j with
    | none => rw [gj] at hs; cases hs
    | some kj =>
      rw [gj] at hs
      simp only [Option.bind_some] at hs
      cases hs0 : S kj with
      | none => rw [hs0] at hs; cases hs
      | some ob0 =>
        rw [hs0] at hs
        cases hs
        exact (h.obj kj ob0 hs0).ren hr (Nat.le_refl _) (hA j kj gj)
  · intro j hs
    unfold packS at hs
    unfold packE
    cases gj : packG n0 top ks j with
    | none => rfl
    | some kj =>
      rw [gj] at hs
      simp only [Option.bind_some] at hs ⊢
      cases hs0 : S kj with
      | none => exact h.dom kj hs0
      | some ob0 => rw [hs0] at hs; cases hs
  · intro j b c hj hk
    unfold packE at hk
    cases gj : packG n0 top ks j with
    | none => rw [gj] at hk; cases hk
    | some kj => rw [gj] at hk; exact h.newk kj b c ((hn kj j (hA j kj gj)).1 hj) hk
  · -- key
    intro k ob _ hk
    have hlt := hS0 k (by rw [hk]; simp)
    obtain ⟨ob1, h1, h2⟩ := hx.key k ob trivial hk
    have gk : packG n0 top ks k = some k := by unfold packG; rw [if_pos hlt]
    refine ⟨renO (packF n0 top ks) ob1, by simp [packS, gk, h1], ?_⟩
    have : packE n0 top ks ρ k = ρ k := by simp [packE, gk]
    rw [this]
    cases ob with
    | row m z lim xs =>
      cases ob1 with
      | row => exact h2
      | _ => exact h2.elim
    | _ => exact ⟨by rw [isRow_ren]; exact h2.1, h2.2⟩
  · exact hx.frame
  · intro j b c hj
    unfold packE at hj
    cases gj : packG n0 top ks j with
    | none => rw [gj] at hj; cases hj
    | some kj =>
      rw [gj] at hj
      rcases hx.own kj b c hj with ⟨k0, c0, h0, h1⟩ | h0
      · refine .inl ⟨k0, c0, h0, fun _ hs => ?_⟩
        have hlt := hS0 j hs
        have : packG n0 top ks j = some j := by unfold packG; rw [if_pos hlt]
        rw [this] at gj
        cases gj
        exact h1 trivial hs
      · exact .inr h0
  · exact hx.gnew

theorem reach_keys (look : Look) (n : Nat) (todo : List Nat) (n0 : Nat) : ((reach look n todo []).filter fun k => !decide (k < n0)).Nodup ∧ (∀ k ∈ (reach look n todo []).filter fun k => !decide (k < n0), n0 ≤ k) ∧ ∀ k ∈ (reach look n todo []).filter fun k => !decide (k < n0), look k ≠ none := by
  obtain ⟨h1, h2⟩ := reach_spec (look := look) n todo [] (by simp) (by simp)
  refine ⟨h1.filter _, fun k hk => ?_, fun k hk => h2 k (List.mem_filter.1 hk).1⟩
  have := (List.mem_filter.1 hk).2
  simp at this
  exact this

theorem keepS_get {s : Sl} {live : List Nat} {t : Nat} {sv : SV} (h : get (keepS s live) t = some sv) : s t = some sv := by
  induction live with
  | nil => simp [keepS, get] at h
  | cons i r ih =>
    simp only [keepS] at h
    split at h
    · rename_i v hv
      simp only [get] at h
      split at h
      · rename_i e; subst e; cases h; exact hv
      · exact ih h
    · exact ih h

theorem renS_get {f : Nat → Option Nat} {s : Slots} (t : Nat) : get (renS f s) t = (get s t).map (ren f) := by
  induction s with
  | nil => rfl
  | cons p r ih =>
    obtain ⟨i, v⟩ := p
    simp only [renS, get]
    split
    · rfl
    · exact ih

section
variable {nt : Nat} {ρ0 : Emb} {G0 : Cs} {w0 : World} {S0 : Look}

theorem canon_inv (hS0 : ∀ k, S0 k ≠ none → k < n0) {σ : St} {a : Act} (live : List Nat) {top : Nat} (ht : n0 ≤ top) (hF : FInv E B n0 nt ρ0 G0 w0 S0 (get σ.slots) (get σ.store) a w) :
    FInv E B n0 nt ρ0 G0 w0 S0 (get (canon n0 top live σ).slots) (get (canon n0 top live σ).store) a w := by
  obtain ⟨⟨ρ, G, h1, h2, h3, h4⟩, h5, h6⟩ := hF
  obtain ⟨k1, k2, k3⟩ := reach_keys (get σ.store) 256 (List.range n0 ++ refsS (keepS (get σ.slots) live)) n0
  obtain ⟨p1, p2, p3⟩ := pack_sound h1 h2 hS0 k1 k2 ht
  unfold canon
  simp only
  rw [pack_store n0 top ht]
  refine ⟨⟨_, G, p1, p2, fun t sv hsv => ?_, h4⟩, h5, h6⟩
  rw [renS_get] at hsv
  cases hk : get (keepS (get σ.slots) live) t with
  | none => rw [hk] at hsv; cases hsv
  | some v =>
    rw [hk] at hsv
    cases hsv
    exact (h3 t v (keepS_get hk)).ren p3 (Nat.le_refl _)

/-- Are all regions whose order is drawn told by their edges? -/
def codeOk (reg : Nat → List (List Nat)) : Code → Bool
  | .region id ops true => ancOk ops (reg id)
  | .seq a b => codeOk reg a && codeOk reg b
  | .cond _ a b => codeOk reg a && codeOk reg b
  | .block _ a => codeOk reg a
  | .loop a => codeOk reg a
  | _ => true

structure EnvAll (P : Program) (E : Env) : Prop where
  ok : EnvOk P E
  loc : ∀ g hh, E.intr g = some hh → ∀ args nk, Local fun S => hh args S nk
  mixed : P.follows .mixedOrders = true
  code : ∀ (g : Nat) fn c, P.funcs[g]? = some fn → fn.body = some c → codeOk (E.reg g) c = true
  name : ∀ (g : Nat) fn, P.funcs[g]? = some fn → fn.name ≠ "runtime.NumGoroutine"

def exitOf : Ex → Exit
  | .normal => .normal
  | .exit id => .exit id
  | .ret => .ret

theorem exec_sound {cf : FuncId → List SV → Store → Option (SV × Store)} (hE : EnvAll P E) (hcf : CallsOk P E cf) (hce : CallsEnter P cf) (hS0 : ∀ k, S0 k ≠ none → k < n0) {ann : Nat → List Nat} {reg : Nat → List (List Nat)} : ∀ (n : Nat),
    (∀ (c : Code) {σ σ1 : St} {ex : Ex}, exec P E cf n0 (n0 + 16 * nt) ann reg n c σ = some (ex, σ1) → codeOk reg c = true → ∀ {Q : Exit → Act → World → Prop} {a : Act} {w : World}, FInv E B n0 nt ρ0 G0 w0 S0 (get σ.slots) (get σ.store) a w →
      (∀ a1 w1, FInv E B n0 nt ρ0 G0 w0 S0 (get σ1.slots) (get σ1.store) a1 w1 → Q (exitOf ex) a1 w1) → c.wp P Q a w) ∧
    (∀ (c : Code) {σ σ1 : St} {ex : Ex}, exec P E cf n0 (n0 + 16 * nt) ann reg n (.loop c) σ = some (ex, σ1) → codeOk reg c = true → ∀ {Q : Exit → Act → World → Prop} {a : Act} {w : World}, FInv E B n0 nt ρ0 G0 w0 S0 (get σ.slots) (get σ.store) a w →
      (∀ a1 w1, FInv E B n0 nt ρ0 G0 w0 S0 (get σ1.slots) (get σ1.store) a1 w1 → Q (exitOf ex) a1 w1) → Code.rounds P c Q n a w) := by
  intro n
  induction n with
  | zero => exact ⟨fun c σ σ1 ex h => by simp [exec] at h, fun c σ σ1 ex h => by simp [exec] at h⟩
  | succ n ih =>
    obtain ⟨ih1, ih2⟩ := ih
    have hloop : ∀ (c : Code) {σ σ1 : St} {ex : Ex}, exec P E cf n0 (n0 + 16 * nt) ann reg (n + 1) (.loop c) σ = some (ex, σ1) → codeOk reg c = true → ∀ {Q : Exit → Act → World → Prop} {a : Act} {w : World}, FInv E B n0 nt ρ0 G0 w0 S0 (get σ.slots) (get σ.store) a w →
        (∀ a1 w1, FInv E B n0 nt ρ0 G0 w0 S0 (get σ1.slots) (get σ1.store) a1 w1 → Q (exitOf ex) a1 w1) → Code.rounds P c Q (n + 1) a w := by
      intro c σ σ1 ex h hok Q a w hF hQ
      simp only [exec] at h
      rw [rounds_succ]
      have hF' := canon_inv hS0 (ann (firstRegion c)) (top := n0 + 16 * nt) (Nat.le_add_right _ _) hF
      split at h
      · rename_i σ2 h2
        exact ih1 c h2 hok hF' fun a1 w1 h1 => ih2 c h hok h1 hQ
      · rename_i r hr
        refine ih1 c h hok hF' fun a1 w1 h1 => ?_
        have hne : ex ≠ .normal := by
          rintro rfl
          exact hr σ1 h
        cases ex with
        | normal => exact absurd rfl hne
        | exit id => exact hQ a1 w1 h1
        | ret => exact hQ a1 w1 h1
    refine ⟨fun c σ σ1 ex h hok Q a w hF hQ => ?_, hloop⟩
    cases c with
    | skip =>
      simp only [exec, Option.some.injEq, Prod.mk.injEq] at h
      obtain ⟨rfl, rfl⟩ := h
      exact wp_skip (hQ a w hF)
    | label l =>
      simp only [exec, Option.some.injEq, Prod.mk.injEq] at h
      obtain ⟨rfl, rfl⟩ := h
      exact wp_label (hQ a w hF)
    | region id ops draw =>
      cases draw with
      | false =>
        simp only [exec] at h
        split at h
        · rename_i σ2 h2
          simp only [Option.some.injEq, Prod.mk.injEq] at h
          obtain ⟨rfl, rfl⟩ := h
          exact region_plain hE.ok hcf hce h2 hF hQ
        · cases h
      | true =>
        simp only [exec] at h
        split at h
        · rename_i σ2 es h2
          split at h
          · rename_i ht
            simp only [Option.some.injEq, Prod.mk.injEq] at h
            obtain ⟨rfl, rfl⟩ := h
            exact region_drawn hE.mixed hE.ok hE.loc hcf hce hok h2 ht hF hQ
          · cases h
        · cases h
    | seq x y =>
      simp only [codeOk, Bool.and_eq_true] at hok
      simp only [exec] at h
      refine wp_seq ?_
      split at h
      · rename_i σ2 h2
        exact ih1 x h2 hok.1 hF fun a1 w1 h1 => ih1 y h hok.2 h1 hQ
      · rename_i r hr
        refine ih1 x h hok.1 hF fun a1 w1 h1 => ?_
        have hne : ex ≠ .normal := by
          rintro rfl
          exact hr σ1 h
        cases ex with
        | normal => exact absurd rfl hne
        | exit id => exact hQ a1 w1 h1
        | ret => exact hQ a1 w1 h1
    | cond x y z =>
      simp only [codeOk, Bool.and_eq_true] at hok
      simp only [exec] at h
      split at h
      · rename_i m t hx
        obtain ⟨ρ, G, q1, q2, q3, q4⟩ := hF.ex
        have h0 := eval_rel q4 q3 x
        rw [hx] at h0
        generalize hv : a.eval x = v at h0
        have hv' : v = .bool t := by
          cases h0 with
          | pure _ _ _ h0 => cases h0; rfl
        subst hv'
        refine wp_cond hv ?_
        cases t with
        | true => exact ih1 y h hok.1 hF hQ
        | false => exact ih1 z h hok.2 hF hQ
      · cases h
    | block id x =>
      simp only [codeOk] at hok
      simp only [exec] at h
      refine wp_block ?_
      split at h
      · rename_i j σ2 h2
        split at h
        · rename_i e
          simp only [Option.some.injEq, Prod.mk.injEq] at h
          obtain ⟨rfl, rfl⟩ := h
          refine ih1 x h2 hok hF fun a1 w1 h1 => ?_
          simp only [exitOf, Exit.inBlock, if_pos e]
          exact hQ a1 w1 h1
        · rename_i e
          simp only [Option.some.injEq, Prod.mk.injEq] at h
          obtain ⟨rfl, rfl⟩ := h
          refine ih1 x h2 hok hF fun a1 w1 h1 => ?_
          simp only [exitOf, Exit.inBlock, if_neg e]
          exact hQ a1 w1 h1
      · rename_i r hr
        refine ih1 x h hok hF fun a1 w1 h1 => ?_
        cases ex with
        | normal => exact hQ a1 w1 h1
        | exit id => exact absurd h (hr id σ1)
        | ret => exact hQ a1 w1 h1
    | loop x =>
      simp only [codeOk] at hok
      exact wp_loop_rounds (n + 1) (hloop x h hok hF hQ)
    | exit id =>
      simp only [exec, Option.some.injEq, Prod.mk.injEq] at h
      obtain ⟨rfl, rfl⟩ := h
      exact wp_exit (hQ a w hF)
    | ret =>
      simp only [exec, Option.some.injEq, Prod.mk.injEq] at h
      obtain ⟨rfl, rfl⟩ := h
      exact wp_ret (hQ a w hF)
    | _ => simp [exec] at h

end
end
end Go.Proofs.YticdhmcbooabaaaDoor.V
