/- V12: a call: what is handed in, what is handed back. No claim. -/
import Derived.Test.YticdhmcbooabaaaDoor11
set_option linter.unusedVariables false
set_option linter.unusedSimpArgs false
namespace Go.Proofs.YticdhmcbooabaaaDoor.V
open Go

section
variable {B n0 : Nat} {ρ : Emb} {G : Cs} {w : World} {S : Look} {P : Program} {E : Env}

theorem idx_some {ks : List Nat} {k : Nat} : ∀ {n j : Nat}, idx ks k n = some j → n ≤ j ∧ ks[j - n]? = some k := by
  induction ks with
  | nil => intro n j h; simp [idx] at h
  | cons a r ih =>
    intro n j h
    simp only [idx] at h
    split at h
    · rename_i e
      cases h
      subst e
      exact ⟨Nat.le_refl _, by simp⟩
    · obtain ⟨h1, h2⟩ := ih h
      refine ⟨by omega, ?_⟩
      have : j - n = (j - (n + 1)) + 1 := by omega
      rw [this]
      simpa using h2

theorem idx_get {ks : List Nat} (hnd : ks.Nodup) {k : Nat} : ∀ {i : Nat} (n : Nat), ks[i]? = some k → idx ks k n = some (n + i) := by
  induction ks with
  | nil => intro i n h; simp at h
  | cons a r ih =>
    intro i n h
    simp only [idx]
    rw [List.nodup_cons] at hnd
    cases i with
    | zero => simp at h; subst h; simp
    | succ i =>
      have hr : r[i]? = some k := by simpa using h
      have hne : a ≠ k := by rintro rfl; exact hnd.1 (List.mem_of_getElem? hr)
      rw [if_neg hne, ih hnd.2 (n + 1) hr]
      congr 1
      omega

theorem idx_none {ks : List Nat} {k : Nat} : ∀ {n : Nat}, idx ks k n = none → k ∉ ks := by
  induction ks with
  | nil => intro n _; simp
  | cons a r ih =>
    intro n h
    simp only [idx] at h
    split at h
    · cases h
    · rename_i e
      have := ih h
      simp only [List.mem_cons, not_or]
      exact ⟨fun h => e h.symm, this⟩

theorem idx_mem {ks : List Nat} {k : Nat} {n : Nat} (h : k ∈ ks) : ∃ j, idx ks k n = some j := by
  cases e : idx ks k n with
  | none => exact absurd h (idx_none e)
  | some j => exact ⟨j, rfl⟩

theorem putAll_get {look : Look} {f : Nat → Option Nat} {ks : List Nat} : ∀ {n : Nat}, (∀ k ∈ ks, look k ≠ none) →
    (putAll look f ks n).length = ks.length ∧ (∀ j, get (putAll look f ks n) (n + j) = (ks[j]?).bind fun k => (look k).map fun ob => renO f (demO ob)) ∧ ∀ i, i < n → get (putAll look f ks n) i = none := by
  induction ks with
  | nil => intro n _; simp [putAll, get]
  | cons a r ih =>
    intro n h
    obtain ⟨ob, hob⟩ := Option.ne_none_iff_exists'.1 (h a (by simp))
    obtain ⟨h1, h2, h3⟩ := ih (n := n + 1) (fun k hk => h k (by simp [hk]))
    simp only [putAll, hob]
    refine ⟨by simp [h1], fun j => ?_, fun i hi => ?_⟩
    · cases j with
      | zero => simp [get, hob]
      | succ j =>
        simp only [get]
        rw [if_neg (by omega), show n + (j + 1) = n + 1 + j by omega, h2]
        simp
    · simp only [get]
      rw [if_neg (by omega)]
      exact h3 i (by omega)

theorem reach_spec {look : Look} : ∀ (fuel : Nat) (todo acc : List Nat), acc.Nodup → (∀ k ∈ acc, look k ≠ none) → (reach look fuel todo acc).Nodup ∧ ∀ k ∈ reach look fuel todo acc, look k ≠ none := by
  intro fuel
  induction fuel with
  | zero => intro todo acc h1 h2; simp only [reach]; exact ⟨h1, h2⟩
  | succ fuel ih =>
    intro todo acc h1 h2
    cases todo with
    | nil => simp only [reach]; exact ⟨h1, h2⟩
    | cons k todo =>
      simp only [reach]
      split
      · exact ih todo acc h1 h2
      · rename_i hk
        split
        · rename_i ob hob
          refine ih _ _ ?_ ?_
          · rw [List.nodup_append]
            refine ⟨h1, by simp, fun a ha b hb => ?_⟩
            simp at hb
            subst hb
            rintro rfl
            exact hk (by simpa using ha)
          · intro j hj
            rcases List.mem_append.1 hj with hj | hj
            · exact h2 j hj
            · simp at hj; subst hj; simp [hob]
        · exact ih todo acc h1 h2

theorem freeze_keys {base : Nat} {v : SV} {m : Bool} {x : PV} {δ : Store} (h : freeze base S v = some (m, x, δ)) (k : Nat) (hk : get δ k ≠ none) : S k ≠ none := by
  unfold freeze at h
  repeat' (split at h)
  all_goals first
    | (cases h; done)
    | (cases h; simp [get] at hk; done)
    | (cases h
       simp only [get] at hk
       split at hk
       · rename_i e
         subst e
         simp_all
       · exact absurd rfl hk)

theorem freeze_sl {base : Nat} {v : SV} {br : Bool} (hv : isRowV br v = true) {m : Bool} {x : PV} {δ : Store} (h : freeze base S v = some (m, x, δ)) : ∃ xs, x = .sl xs := by
  cases v <;> simp [isRowV] at hv <;> simp only [freeze] at h <;> repeat' (split at h)
  all_goals first
    | (cases h; done)
    | (cases h; exact ⟨_, rfl⟩)

theorem over_none {δ : Store} {k : Nat} (h : over δ S k ≠ none) (hd : get δ k ≠ none → S k ≠ none) : S k ≠ none := by
  unfold over at h
  cases hg : get δ k with
  | none => rw [hg] at h; exact h
  | some ob => exact hd (by rw [hg]; simp)

theorem argV_sound {br : Bool} {args : List SV} : ∀ {G : Cs} {S : Look}, SInv ρ G B n0 w S → ∀ {vals : List Value} {as : List SV} {δ : Store}, argV n0 br S args = some (as, δ) → vals.length = args.length →
    (∀ (i : Nat) v s, vals[i]? = some v → args[i]? = some s → RelV ρ G B n0 w S v s) →
    ∃ G1, SInv ρ G1 B n0 w (over δ S) ∧ Ext All B n0 ρ G w S ρ G1 w (over δ S) ∧ as.length = args.length ∧ (∀ k, get δ k ≠ none → S k ≠ none) ∧
      ∀ (i : Nat) v s, vals[i]? = some v → as[i]? = some s → ∃ s0, s = dem s0 ∧ RelV ρ G1 B n0 w (over δ S) v s0 := by
  induction args with
  | nil =>
    intro G S h vals as δ ha hl hr
    simp only [argV, Option.some.injEq, Prod.mk.injEq] at ha
    obtain ⟨rfl, rfl⟩ := ha
    exact ⟨G, by rw [over_nil]; exact h, by rw [over_nil]; exact Ext.refl .., rfl, fun k hk => by simp [get] at hk, fun i v s hv hs => by simp at hs⟩
  | cons a r ih =>
    intro G S h vals as δ ha hl hr
    cases vals with
    | nil => simp at hl
    | cons v0 vals =>
      simp only [argV] at ha
      have hr0 := hr 0 v0 a rfl rfl
      have hrr : ∀ (i : Nat) v s, vals[i]? = some v → r[i]? = some s → RelV ρ G B n0 w S v s := fun i v s hv hs => hr (i + 1) v s (by simpa using hv) (by simpa using hs)
      split at ha
      · rename_i hrow
        split at ha
        · rename_i m x δ1 hf
          obtain ⟨G1, f1, f2, f3⟩ := freeze_sound h hr0 hf
          split at ha
          · rename_i l δ2 hrest
            simp only [Option.some.injEq, Prod.mk.injEq] at ha
            obtain ⟨rfl, rfl⟩ := ha
            obtain ⟨G2, g1, g2, g3, g4, g5⟩ := ih f1 hrest (by simpa using hl) (fun i v s hv hs => (hrr i v s hv hs).ext f2)
            rw [over_append]
            refine ⟨G2, g1, f2.trans g2, by simp [g3], fun k hk => ?_, fun i v s hv hs => ?_⟩
            · rw [get_append] at hk
              cases hg : get δ2 k with
              | none => rw [hg] at hk; exact freeze_keys hf k hk
              | some ob => exact over_none (g4 k (by rw [hg]; simp)) (freeze_keys hf k)
            · cases i with
              | zero =>
                simp at hv hs
                subst hv hs
                obtain ⟨xs, rfl⟩ := freeze_sl hrow hf
                refine ⟨.pure false (.sl xs), rfl, (RelV.pure (n0 := n0) (S := over δ1 S) (ρ := ρ) _ _ _ (f3.weaken fun b o hb => ⟨hb.1, fun h => by cases h⟩)).ext g2⟩
              | succ i => exact g5 i v s (by simpa using hv) (by simpa using hs)
          · cases ha
        · cases ha
      · split at ha
        · rename_i l δ2 hrest
          simp only [Option.some.injEq, Prod.mk.injEq] at ha
          obtain ⟨rfl, rfl⟩ := ha
          obtain ⟨G2, g1, g2, g3, g4, g5⟩ := ih h hrest (by simpa using hl) hrr
          refine ⟨G2, g1, g2, by simp [g3], g4, fun i v s hv hs => ?_⟩
          cases i with
          | zero =>
            simp at hv hs
            subst hv hs
            exact ⟨a, rfl, hr0.ext g2⟩
          | succ i => exact g5 i v s (by simpa using hv) (by simpa using hs)
        · cases ha

/-- The callee's sight of the keys that are handed in. -/
def embC (ρ : Emb) (ks : List Nat) : Emb := fun j => (ks[j]?).bind ρ
def lookC (S : Look) (f : Nat → Option Nat) (ks : List Nat) : Look := fun j => (ks[j]?).bind fun k => (S k).map fun ob => renO f (demO ob)

theorem enter_sound (h : SInv ρ G B n0 w S) {ks : List Nat} (hnd : ks.Nodup) (hks : ∀ k ∈ ks, S k ≠ none) :
    SInv (embC ρ ks) G w.heap.size ks.length w (lookC S (fun k => idx ks k 0) ks) ∧
      ∀ v s, RelV ρ G B n0 w S v s → RelV (embC ρ ks) G w.heap.size ks.length w (lookC S (fun k => idx ks k 0) ks) v (ren (fun k => idx ks k 0) (dem s)) := by
  have hix : ∀ k j, idx ks k 0 = some j → ks[j]? = some k := fun k j hj => by have := (idx_some hj).2; simpa using this
  have hr : Ren (fun k => idx ks k 0) ρ (embC ρ ks) ks.length ks.length (fun k => (S k).map demO) (lookC S (fun k => idx ks k 0) ks) := by
    refine ⟨fun k j hj => ?_, fun k j ob hj hk => ?_, fun k j z lim xs hj hk hn => ?_⟩
    · simp [embC, hix k j hj]
    · cases hs : S k with
      | none => rw [hs] at hk; cases hk
      | some ob0 =>
        rw [hs] at hk
        cases hk
        simp [lookC, hix k j hj, hs]
    · have := (List.getElem?_eq_some_iff.1 (hix k j hj)).1
      omega
  have hd : ∀ k ob, S k = some ob → (fun k => (S k).map demO) k = some (demO ob) := fun k ob hk => by simp [hk]
  refine ⟨⟨?_, ?_, h.gdef, ?_, ?_, ?_, ?_, Nat.le_refl _⟩, fun v s hv => (hv.dem (B2 := w.heap.size) (n2 := ks.length) hd).ren hr (Nat.le_refl _)⟩
  · intro i j b c c' hi hj
    unfold embC at hi hj
    cases hki : ks[i]? with
    | none => rw [hki] at hi; cases hi
    | some ki =>
      cases hkj : ks[j]? with
      | none => rw [hkj] at hj; cases hj
      | some kj =>
        rw [hki] at hi
        rw [hkj] at hj
        have := h.inj ki kj b c c' hi hj
        subst this
        have e1 := idx_get hnd 0 hki
        have e2 := idx_get hnd 0 hkj
        rw [e1] at e2
        simpa using e2
  · intro j b c hj
    unfold embC at hj
    cases hkj : ks[j]? with
    | none => rw [hkj] at hj; cases hj
    | some kj => rw [hkj] at hj; exact h.lt kj b c hj
  · intro j b c ob o hj hs hg
    unfold embC at hj
    unfold lookC at hs
    cases hkj : ks[j]? with
    | none => rw [hkj] at hj; cases hj
    | some kj =>
      rw [hkj] at hj hs
      simp only [Option.bind_some] at hj hs
      cases hs0 : S kj with
      | none => rw [hs0] at hs; cases hs
      | some ob0 =>
        rw [hs0] at hs
        cases hs
        rw [prot_ren, prot_dem]
        exact h.gobj kj b c ob0 o hj hs0 hg
  · intro j ob hs
    unfold lookC at hs
    cases hkj : ks[j]? with
    | none => rw [hkj] at hs; cases hs
    | some kj =>
      rw [hkj] at hs
      simp only [Option.bind_some] at hs
      cases hs0 : S kj with
      | none => rw [hs0] at hs; cases hs
      | some ob0 =>
        rw [hs0] at hs
        cases hs
        exact ((h.obj kj ob0 hs0).dem (B2 := w.heap.size) (n2 := ks.length) hd).ren hr (Nat.le_refl _) (by have := idx_get hnd 0 hkj; simpa using this)
  · intro j hs
    unfold lookC at hs
    unfold embC
    cases hkj : ks[j]? with
    | none => rfl
    | some kj =>
      rw [hkj] at hs
      simp only [Option.bind_some] at hs ⊢
      cases hs0 : S kj with
      | none => exact h.dom kj hs0
      | some ob0 => rw [hs0] at hs; cases hs
  · intro j b c hn hj
    unfold embC at hj
    rw [List.getElem?_eq_none hn] at hj
    cases hj

/-- What comes back: the callee's objects, under the caller's keys. -/
def embB (ρ ρ1 : Emb) (keys : List Nat) : Emb := fun k => match idx keys k 0 with | some i => ρ1 i | none => ρ k
def lookB (S S1 : Look) (f : Nat → Option Nat) (keys : List Nat) : Look := fun k => match idx keys k 0 with | some i => (S1 i).map (renO f) | none => S k

theorem back_sound (h : SInv ρ G B n0 w S) {ks nks : List Nat} (hnd : (ks ++ nks).Nodup) (hks : ∀ k ∈ ks, S k ≠ none) (hnks : ∀ k ∈ nks, n0 ≤ k ∧ S k = none) {ρ1 : Emb} {G1 : Cs} {w1 : World} {S1 : Look}
    (h1 : SInv ρ1 G1 w.heap.size ks.length w1 S1) (x1 : Ext All w.heap.size ks.length (embC ρ ks) G w (lookC S (fun k => idx ks k 0) ks) ρ1 G1 w1 S1) (hfull : ∀ i, S1 i ≠ none ↔ i < (ks ++ nks).length) :
    SInv (embB ρ ρ1 (ks ++ nks)) G1 B n0 w1 (lookB S S1 (fun i => (ks ++ nks)[i]?) (ks ++ nks)) ∧
    Ext All B n0 ρ G w S (embB ρ ρ1 (ks ++ nks)) G1 w1 (lookB S S1 (fun i => (ks ++ nks)[i]?) (ks ++ nks)) ∧
    ∀ u s, RelV ρ1 G1 w.heap.size ks.length w1 S1 u s → RelV (embB ρ ρ1 (ks ++ nks)) G1 B n0 w1 (lookB S S1 (fun i => (ks ++ nks)[i]?) (ks ++ nks)) u (ren (fun i => (ks ++ nks)[i]?) s) := by
  have hix : ∀ k i, idx (ks ++ nks) k 0 = some i → (ks ++ nks)[i]? = some k := fun k j hj => by have := (idx_some hj).2; simpa using this
  have hget : ∀ (i k : Nat), (ks ++ nks)[i]? = some k → idx (ks ++ nks) k 0 = some i := fun i k hi => by have := idx_get hnd 0 hi; simpa using this
  have hndk : ks.Nodup := (List.nodup_append.1 hnd).1
  -- the rows that were handed in are told as old
  have hkeep : ∀ (i : Nat), i < ks.length → ∃ k ob ob', ks[i]? = some k ∧ S k = some ob ∧ S1 i = some ob' ∧ Ev w.heap.size ks.length G1 w1 i (ρ k) (ρ1 i) (renO (fun k => idx ks k 0) (demO ob)) ob' := by
    intro i hi
    have hk : ks[i]? = some ks[i] := List.getElem?_eq_getElem hi
    obtain ⟨ob, hob⟩ := Option.ne_none_iff_exists'.1 (hks ks[i] (List.mem_of_getElem? hk))
    obtain ⟨ob', e1, e2⟩ := x1.key i (renO (fun k => idx ks k 0) (demO ob)) trivial (by simp [lookC, hk, hob])
    refine ⟨ks[i], ob, ob', hk, hob, e1, ?_⟩
    have : embC ρ ks i = ρ ks[i] := by simp [embC, hk]
    rwa [this] at e2
  have hr : Ren (fun i => (ks ++ nks)[i]?) ρ1 (embB ρ ρ1 (ks ++ nks)) ks.length n0 S1 (lookB S S1 (fun i => (ks ++ nks)[i]?) (ks ++ nks)) := by
    refine ⟨fun i k hi => ?_, fun i k ob hi hs => ?_, fun i k z lim xs hi hs hn => ?_⟩
    · simp [embB, hget i k hi]
    · simp [lookB, hget i k hi, hs]
    · rcases Nat.lt_or_ge i ks.length with hlt | hge
      · obtain ⟨k', ob, ob', e1, e2, e3, e4⟩ := hkeep i hlt
        rw [hs] at e3
        cases e3
        cases ob with
        | row m z lim xs =>
          have := e4.1 rfl
          cases this
        | _ => have := e4.1; simp [isRow] at this
      · exact hge
  have hB : B ≤ w.heap.size := h.bsz
  -- whose blocks are whose
  have hsep : ∀ (i k b : Nat) (c c' : Nat × Nat), ρ1 i = some (b, c) → ρ k = some (b, c') → i < ks.length ∧ ks[i]? = some k ∨ ∃ i0 : Nat, ks[i0]? = some k := by
    intro i k b c c' hi hk
    rcases x1.own i b c hi with ⟨i0, c0, h0, _⟩ | h0
    · refine .inr ⟨i0, ?_⟩
      unfold embC at h0
      cases hk0 : ks[i0]? with
      | none => rw [hk0] at h0; cases h0
      | some k0 =>
        rw [hk0] at h0
        have := h.inj k0 k b c0 c' h0 hk
        subst this
        rfl
    · have := h.lt k b c' hk
      omega
  have hin : ∀ (k i0 : Nat), ks[i0]? = some k → idx (ks ++ nks) k 0 = some i0 := fun k i0 h0 =>
    hget i0 k (by rw [List.getElem?_append_left (List.getElem?_eq_some_iff.1 h0).1]; exact h0)
  have hx : Ext All B n0 ρ G w S (embB ρ ρ1 (ks ++ nks)) G1 w1 (lookB S S1 (fun i => (ks ++ nks)[i]?) (ks ++ nks)) := by
    refine ⟨x1.g, ?_, ?_, ?_, ?_, x1.size, x1.os, x1.tape, x1.out⟩
    · intro k ob _ hk
      unfold embB lookB
      cases e : idx (ks ++ nks) k 0 with
      | some i =>
        have hi := hix k i e
        rcases Nat.lt_or_ge i ks.length with hlt | hge
        · obtain ⟨k', ob0, ob', e1, e2, e3, e4⟩ := hkeep i hlt
          rw [List.getElem?_append_left hlt, e1] at hi
          cases hi
          rw [hk] at e2
          cases e2
          refine ⟨renO (fun i => (ks ++ nks)[i]?) ob', by simp [e3], ?_⟩
          cases ob with
          | row m z lim xs =>
            cases ob' with
            | row m' z' lim' xs' =>
              obtain ⟨q1, q2, q3, q4, q5⟩ := e4
              have hm' : m' = false := by cases m' <;> simp_all
              subst hm'
              refine ⟨fun h => (by cases h), q2, q3, q4, ?_⟩
              rcases q5 with q5 | ⟨q5, q6, q7⟩
              · exact .inl q5
              · exact .inr ⟨q5, q6, fun A cap ht => (q7 A cap ht).weaken (Gm.base hB (by simp))⟩
            | _ => exact e4.elim
          | _ => exact ⟨by rw [isRow_ren]; exact e4.1, e4.2⟩
        · have : (ks ++ nks)[i]? = some k := hi
          rw [List.getElem?_append_right hge] at this
          have := (hnks k (List.mem_of_getElem? this)).2
          rw [hk] at this
          cases this
      | none => exact ⟨ob, hk, Ev.refl ..⟩
    · intro b hb hno
      refine x1.frame b hb fun i c hi => ?_
      unfold embC at hi
      cases hk0 : ks[i]? with
      | none => rw [hk0] at hi; cases hi
      | some k0 => rw [hk0] at hi; exact hno k0 c hi
    · intro k b c hk
      unfold embB at hk
      cases e : idx (ks ++ nks) k 0 with
      | some i =>
        rw [e] at hk
        simp only at hk
        rcases x1.own i b c hk with ⟨i0, c0, h0, h0'⟩ | h0
        · unfold embC at h0
          cases hk0 : ks[i0]? with
          | none => rw [hk0] at h0; cases h0
          | some k0 =>
            rw [hk0] at h0
            refine .inl ⟨k0, c0, h0, fun _ hs => ?_⟩
            have hi := hix k i e
            rcases Nat.lt_or_ge i ks.length with hlt | hge
            · obtain ⟨k', ob, ob', e1, e2, e3, e4⟩ := hkeep i hlt
              have := h0' trivial (by simp [lookC, e1, e2])
              subst this
              rw [List.getElem?_append_left hlt, hk0] at hi
              exact Option.some.inj hi
            · rw [List.getElem?_append_right hge] at hi
              exact absurd (hnks k (List.mem_of_getElem? hi)).2 hs
        · exact .inr h0
      | none => rw [e] at hk; exact .inl ⟨k, c, hk, fun _ _ => rfl⟩
    · intro b o hg
      rcases x1.gnew b o hg with hg | hg | ⟨i0, c0, hg⟩
      · exact .inl hg
      · exact .inr (.inl hg)
      · unfold embC at hg
        cases hk0 : ks[i0]? with
        | none => rw [hk0] at hg; cases hg
        | some k0 => rw [hk0] at hg; exact .inr (.inr ⟨k0, c0, hg⟩)
  refine ⟨⟨?_, ?_, h1.gdef, ?_, ?_, ?_, ?_, Nat.le_trans hB x1.size⟩, hx, fun u s hu => hu.ren hr hB⟩
  · -- inj
    intro k k' b c c' hk hk'
    unfold embB at hk hk'
    cases e : idx (ks ++ nks) k 0 with
    | some i =>
      rw [e] at hk
      cases e' : idx (ks ++ nks) k' 0 with
      | some i' =>
        rw [e'] at hk'
        have := h1.inj i i' b c c' hk hk'
        subst this
        have h2 := hix k i e
        have h3 := hix k' i e'
        rw [h2] at h3
        exact Option.some.inj h3
      | none =>
        rw [e'] at hk'
        rcases hsep i k' b c c' hk hk' with ⟨_, h0⟩ | ⟨i0, h0⟩ <;> rw [hin k' _ h0] at e' <;> cases e'
    | none =>
      rw [e] at hk
      cases e' : idx (ks ++ nks) k' 0 with
      | some i' =>
        rw [e'] at hk'
        rcases hsep i' k b c' c hk' hk with ⟨_, h0⟩ | ⟨i0, h0⟩ <;> rw [hin k _ h0] at e <;> cases e
      | none =>
        rw [e'] at hk'
        exact h.inj k k' b c c' hk hk'
  · -- lt
    intro k b c hk
    unfold embB at hk
    split at hk
    · exact h1.lt _ b c hk
    · exact Nat.lt_of_lt_of_le (h.lt k b c hk) x1.size
  · -- gobj
    intro k b c ob o hk hs hg
    unfold embB at hk
    unfold lookB at hs
    cases e : idx (ks ++ nks) k 0 with
    | some i =>
      rw [e] at hk hs
      simp only at hk hs
      cases hs1 : S1 i with
      | none => rw [hs1] at hs; cases hs
      | some ob1 =>
        rw [hs1] at hs
        cases hs
        rw [prot_ren]
        exact h1.gobj i b c ob1 o hk hs1 hg
    | none =>
      rw [e] at hk hs
      simp only at hk hs
      rcases x1.gnew b o hg with hg | hg | ⟨i0, c0, hg⟩
      · exact h.gobj k b c ob o hk hs hg
      · have := h.lt k b c hk; omega
      · unfold embC at hg
        cases hk0 : ks[i0]? with
        | none => rw [hk0] at hg; cases hg
        | some k0 =>
          rw [hk0] at hg
          have := h.inj k0 k b c0 c hg hk
          subst this
          rw [hin k0 i0 hk0] at e
          cases e
  · -- obj
    intro k ob hs
    unfold lookB at hs
    cases e : idx (ks ++ nks) k 0 with
    | some i =>
      rw [e] at hs
      simp only at hs
      cases hs1 : S1 i with
      | none => rw [hs1] at hs; cases hs
      | some ob1 =>
        rw [hs1] at hs
        cases hs
        exact (h1.obj i ob1 hs1).ren hr hB (hix k i e)
    | none =>
      rw [e] at hs
      simp only at hs
      -- an object of the caller's that was not handed in
      refine (h.obj k ob hs).ext hx (by unfold embB; rw [e]) fun b c hb => x1.frame b (h.lt k b c hb) fun i c' hi => ?_
      unfold embC at hi
      cases hk0 : ks[i]? with
      | none => rw [hk0] at hi; cases hi
      | some k0 =>
        rw [hk0] at hi
        have := h.inj k0 k b c' c hi hb
        subst this
        rw [hin k0 i hk0] at e
        cases e
  · -- dom
    intro k hs
    unfold lookB at hs
    unfold embB
    cases e : idx (ks ++ nks) k 0 with
    | some i =>
      rw [e] at hs
      simp only at hs ⊢
      cases hs1 : S1 i with
      | none => exact h1.dom i hs1
      | some ob1 => rw [hs1] at hs; cases hs
    | none => rw [e] at hs; exact h.dom k hs
  · -- newk
    intro k b c hn hk
    unfold embB at hk
    cases e : idx (ks ++ nks) k 0 with
    | some i =>
      rw [e] at hk
      simp only at hk
      have hi := hix k i e
      rcases Nat.lt_or_ge i ks.length with hlt | hge
      · rcases x1.own i b c hk with ⟨i0, c0, h0⟩ | h0
        · obtain ⟨k', ob, ob', e1, e2, e3, e4⟩ := hkeep i hlt
          rw [List.getElem?_append_left hlt, e1] at hi
          cases hi
          have hs0 : i0 = i := h0.2 trivial (by simp [lookC, e1, e2])
          subst hs0
          have h0 := h0.1
          simp only [embC, e1, Option.bind_some] at h0
          exact h.newk k b c0 hn h0
        · exact Nat.le_trans hB h0
      · exact Nat.le_trans hB (h1.newk i b c hge hk)
    | none => rw [e] at hk; exact h.newk k b c hn hk

end
end Go.Proofs.YticdhmcbooabaaaDoor.V
