/- V13: a call as an operation. No claim. -/
import Derived.Test.YticdhmcbooabaaaDoor12
set_option linter.unusedVariables false
set_option linter.unusedSimpArgs false
namespace Go.Proofs.YticdhmcbooabaaaDoor.V
open Go

section
variable {B n0 : Nat} {ρ : Emb} {G : Cs} {w : World} {S : Look} {P : Program} {E : Env}

mutual
theorem ren_id (f : Nat → Option Nat) : ∀ (s : SV), refs s = [] → ren f s = s
  | .pure .., _ => rfl
  | .row .., h => by simp [refs] at h
  | .ptr .., h => by simp [refs] at h
  | .eptr .., h => by simp [refs] at h
  | .tl .., h => by simp [refs] at h
  | .hd .., h => by simp [refs] at h
  | .rptr .., _ => rfl
  | .map .., h => by simp [refs] at h
  | .iter .., h => by simp [refs] at h
  | .view .., h => by simp [refs] at h
  | .clo g l, h => by simp only [refs] at h; simp only [ren, renL_id f l h]
  | .tuple l, h => by simp only [refs] at h; simp only [ren, renL_id f l h]
  | .agg l, h => by simp only [refs] at h; simp only [ren, renL_id f l h]
  | .dead, _ => rfl
theorem renL_id (f : Nat → Option Nat) : ∀ (l : List SV), refsL l = [] → renL f l = l
  | [], _ => rfl
  | v :: r, h => by
    simp only [refsL, List.append_eq_nil_iff] at h
    simp only [renL, ren_id f v h.1, renL_id f r h.2]
end

theorem refsL_get {l : List SV} (h : refsL l = []) (i : Nat) (s : SV) (hs : l[i]? = some s) : refs s = [] := by
  induction l generalizing i with
  | nil => simp at hs
  | cons v r ih =>
    simp only [refsL, List.append_eq_nil_iff] at h
    cases i with
    | zero => simp at hs; subst hs; exact h.1
    | succ i => exact ih h.2 i (by simpa using hs)

theorem newL_get {l : List SV} (h : newL l = true) (i : Nat) (s : SV) (hs : l[i]? = some s) : newV s = true := by
  induction l generalizing i with
  | nil => simp at hs
  | cons v r ih =>
    simp only [newL, Bool.and_eq_true] at h
    cases i with
    | zero => simp at hs; subst hs; exact h.1
    | succ i => exact ih h.2 i (by simpa using hs)

theorem get_mem {α : Type} {l : List (Nat × α)} {k : Nat} {v : α} (h : get l k = some v) : (k, v) ∈ l := by
  induction l with
  | nil => simp [get] at h
  | cons p r ih =>
    obtain ⟨j, u⟩ := p
    simp only [get] at h
    split at h
    · rename_i e; subst e; cases h; simp
    · exact List.mem_cons_of_mem _ (ih h)

/-- Where all that comes back is new, nothing of the caller's is held. -/
theorem new_end (h : SInv ρ G B n0 w S) {ρ1 : Emb} {G1 G2 : Cs} {w1 : World} {S1 : Look} (hG : ∀ b o, G b o → G1 b o) (h1 : SInv ρ1 G2 w.heap.size 0 w1 S1) (x1 : Ext All w.heap.size 0 (fun _ => none) G1 w (fun _ => none) ρ1 G2 w1 S1)
    {u : Value} {res : SV} (hu : RelV ρ1 G2 w.heap.size 0 w1 S1 u res) (hnew : newV res = true) (hall : ∀ k ob, S1 k = some ob → newO ob = true) :
    ∃ G3, SInv ρ1 G3 w.heap.size 0 w1 S1 ∧ Ext All w.heap.size 0 (fun _ => none) G w (fun _ => none) ρ1 G3 w1 S1 ∧ RelV ρ1 G3 w.heap.size 0 w1 S1 u res := by
  have hgm : ∀ b o, Gm G2 w.heap.size true b o → Gm (fun b o => G b o ∨ (w.heap.size ≤ b ∧ G2 b o)) w.heap.size true b o := fun b o hb => ⟨.inr ⟨hb.2 rfl, hb.1⟩, hb.2⟩
  refine ⟨fun b o => G b o ∨ (w.heap.size ≤ b ∧ G2 b o), ⟨h1.inj, h1.lt, ?_, ?_, ?_, h1.dom, h1.newk, h1.bsz⟩, ⟨?_, ?_, x1.frame, x1.own, ?_, x1.size, x1.os, x1.tape, x1.out⟩, ?_⟩
  · rintro b o (hg | hg)
    · exact Nat.lt_of_lt_of_le (h.gdef b o hg) x1.size
    · exact h1.gdef b o hg.2
  · rintro k b c ob o hk hs (hg | hg)
    · have := h.gdef b o hg
      have := h1.newk k b c (Nat.zero_le _) hk
      omega
    · exact h1.gobj k b c ob o hk hs hg.2
  · intro k ob hs
    have hn := hall k ob hs
    have ho := h1.obj k ob hs
    cases ob with
    | row m z lim xs =>
      simp only [newO] at hn
      subst hn
      obtain ⟨o1, o2, o3⟩ := ho
      refine ⟨o1, o2, fun b cap d hb => ?_⟩
      obtain ⟨h4, h5, cells, T, fr, vs, h6, h7, h8, h9, h10⟩ := o3 b cap d hb
      exact ⟨h4, h5, cells, T, fr, vs, h6, h7, h8, fun o hf ho => .inr ⟨h1.newk k b _ (Nat.zero_le _) hb, h9 o hf ho⟩, fun j x hj => ⟨(h10 j x hj).1, (h10 j x hj).2.1.weaken hgm, (h10 j x hj).2.2⟩⟩
    | _ => simp [newO] at hn
  · intro b o hg
    exact ⟨.inl hg, (x1.g b o (hG b o hg)).2⟩
  · intro k ob _ hk
    cases hk
  · rintro b o (hg | hg)
    · exact .inl hg
    · exact .inr (.inl hg.1)
  · clear hG
    induction hu with
    | pure m x v hv =>
      by_cases hs : x.scalar = true
      · exact .pure _ _ _ (hv.scalar hs)
      · have : m = true := by simp [newV] at hnew; rcases hnew with h | h <;> simp_all
        subst this
        exact .pure _ _ _ (hv.weaken hgm)
    | row k len A cap m z lim xs hk hr =>
      have hn := hall k _ hk
      simp only [newO] at hn
      subst hn
      refine .row k len A cap true z lim xs hk ?_
      rcases hr with hr | ⟨e1, e2, e3⟩
      · exact .inl hr
      · simp only [Nat.zero_le, decide_true, Bool.and_self] at e3 ⊢
        exact .inr ⟨e1, e2, e3.weaken hgm⟩
    | hd k len q A cap m z lim xs hk hi hle h => exact .hd k len q A cap m z lim xs hk hi hle h
    | tuple cs vs hl hc ih =>
      simp only [newV] at hnew
      exact .tuple cs vs hl fun i v c hv hcc => ih i v c hv hcc (newL_get hnew i c hcc)
    | _ => simp [newV] at hnew

theorem backAll_get {S1 : Store} {f : Nat → Option Nat} {keys : List Nat} (hnd : keys.Nodup) (k : Nat) : ∀ {n : Nat}, get (backAll S1 f keys n) k = match idx keys k n with | some i => (get S1 i).map (renO f) | none => none := by
  induction keys with
  | nil => intro n; simp [backAll, idx, get]
  | cons a r ih =>
    intro n
    rw [List.nodup_cons] at hnd
    have ih' := ih hnd.2 (n := n + 1)
    simp only [backAll, idx]
    by_cases e : a = k
    · subst e
      rw [if_pos rfl]
      cases hg : get S1 n with
      | some ob => simp [get, hg]
      | none =>
        simp only [hg, Option.map_none]
        rw [ih']
        cases hi : idx r a (n + 1) with
        | none => rfl
        | some i =>
          have := (idx_some hi).2
          exact absurd (List.mem_of_getElem? this) hnd.1
    · rw [if_neg e]
      cases hg : get S1 n with
      | some ob =>
        simp only [get]
        rw [if_neg e]
        exact ih'
      | none => exact ih'

theorem over_back {S1 : Store} {keys : List Nat} (hnd : keys.Nodup) (hfull : ∀ i, get S1 i ≠ none ↔ i < keys.length) (δ : Store) (S : Look) :
    over (backAll S1 (fun i => keys[i]?) keys 0 ++ δ) S = lookB (over δ S) (get S1) (fun i => keys[i]?) keys := by
  rw [over_append]
  funext k
  unfold lookB
  rw [show over (backAll S1 (fun i => keys[i]?) keys 0) (over δ S) k = match get (backAll S1 (fun i => keys[i]?) keys 0) k with | some ob => some ob | none => over δ S k from rfl, backAll_get hnd k]
  cases hi : idx keys k 0 with
  | none => rfl
  | some i =>
    have h1 := (idx_some hi).2
    simp only [Nat.sub_zero] at h1
    have h2 := (hfull i).2 (List.getElem?_eq_some_iff.1 h1).1
    obtain ⟨ob, hob⟩ := Option.ne_none_iff_exists'.1 h2
    simp [hob]

theorem nodup_keys (nk n : Nat) : ((List.range n).map (nk + ·)).Nodup := by
  unfold List.Nodup
  rw [List.pairwise_map]
  exact List.Pairwise.imp (fun h e => h (by omega)) (List.nodup_range (n := n))

/-- What a call comes to, in its own frame. -/
def CallPost (B n0 : Nat) (ρ : Emb) (G : Cs) (w : World) (S : Look) (res : SV) (S1 : Store) : Ending → World → Prop := fun e w' =>
  ∃ u ρ' G', e = .returned u ∧ SInv ρ' G' B n0 w' (get S1) ∧ Ext All B n0 ρ G w S ρ' G' w' (get S1) ∧ RelV ρ' G' B n0 w' (get S1) u res ∧ ∀ i, get S1 i ≠ none ↔ i < S1.length

/-- The calls that are told are those of the program. -/
def CallsOk (P : Program) (E : Env) (cf : FuncId → List SV → Store → Option (SV × Store)) : Prop :=
  ∀ g args S0 res S1, cf g args S0 = some (res, S1) → ∀ (vals : Array Value) ρ G w, (∀ i, get S0 i ≠ none ↔ i < S0.length) → SInv ρ G w.heap.size S0.length w (get S0) → GlobOk E G w.heap.size w → vals.size = args.length →
    (∀ (i : Nat) v s, vals[i]? = some v → args[i]? = some s → RelV ρ G w.heap.size S0.length w (get S0) v s) →
    Calls P g vals w (CallPost w.heap.size S0.length ρ G w (get S0) res S1)

theorem get_nil {α : Type} : (get ([] : List (Nat × α))) = fun _ => none := by funext k; rfl

theorem callV_sound {cf : FuncId → List SV → Store → Option (SV × Store)} (hcf : CallsOk P E cf) (hgl : GlobOk E G B w) (h : SInv ρ G B n0 w S) {nk : Nat} (hn : n0 ≤ nk) {br : Bool} {g : FuncId} {args : List SV} {vals : Array Value}
    (hl : vals.size = args.length) (hr : ∀ (i : Nat) v s, vals[i]? = some v → args[i]? = some s → RelV ρ G B n0 w S v s) {e : Eff} (he : callV cf n0 nk br S g args = some e) :
    Calls P g vals w fun en w' => ∃ u ρ' G', en = .returned u ∧ SInv ρ' G' B n0 w' (over e.wr S) ∧ Ext All B n0 ρ G w S ρ' G' w' (over e.wr S) ∧ RelV ρ' G' B n0 w' (over e.wr S) u e.res := by
  unfold callV at he
  split at he
  · cases he
  · rename_i as δ ha
    obtain ⟨G1, a1, a2, a3, a4, a5⟩ := argV_sound h ha (vals := vals.toList) (by simpa using hl) (fun i v s hv hs => hr i v s (by simpa using hv) hs)
    have hgl1 : GlobOk E G1 w.heap.size w := ⟨(hgl.ext a2).glob⟩
    have hkey : ∀ k, over δ S k ≠ none → S k ≠ none := fun k hk => over_none hk (a4 k)
    simp only at he
    split at he
    · -- no memory is handed in
      rename_i hrs
      split at he
      · cases he
      · rename_i res S1 hres
        split at he
        · rename_i hfr
          simp only [Bool.and_eq_true, decide_eq_true_eq] at hfr
          simp only [Option.some.injEq] at he
          subst he
          have hent := enter_sound a1 (ks := []) (by simp) (by simp)
          have e0 : embC ρ [] = fun _ => none := by funext j; simp [embC]
          have e1 : lookC (over δ S) (fun k => idx [] k 0) [] = get [] := by funext j; simp [lookC, get]
          rw [e0, e1] at hent
          refine (hcf g as [] res S1 hres vals _ G1 w (by simp [get]) hent.1 hgl1 (by rw [hl, a3]) (fun i v s hv hs => ?_)).mono ?_
          · obtain ⟨s0, rfl, h0⟩ := a5 i v s (by simpa using hv) hs
            have := hent.2 v s0 h0
            rwa [ren_id _ _ (refsL_get hrs i _ hs)] at this
          · rintro en w1 ⟨u, ρ1, G2, rfl, p1, p2, p3, p4⟩
            have hlen : ((List.range S1.length).map (nk + ·)).length = S1.length := by simp
            have hnd : ([] ++ (List.range S1.length).map (nk + ·)).Nodup := by
              rw [List.nil_append]
              exact nodup_keys nk _
            have hnew : ∀ (S' : Look), (∀ k, S' k ≠ none → S k ≠ none) → ∀ k ∈ (List.range S1.length).map (nk + ·), n0 ≤ k ∧ S' k = none := by
              intro S' hS' k hk
              obtain ⟨i, hi, rfl⟩ := List.mem_map.1 hk
              have hi := List.mem_range.1 hi
              refine ⟨by omega, ?_⟩
              cases hc : S' (nk + i) with
              | none => rfl
              | some ob => exact absurd (fresh_get hfr.1 (nk + i) (by omega) (by omega)) (hS' _ (by rw [hc]; simp))
            have hnw : (newV res && S1.all fun p => newO p.2) = true → ∀ k ob, get S1 k = some ob → newO ob = true := by
              intro hnw k ob hk
              simp only [Bool.and_eq_true, List.all_eq_true] at hnw
              exact hnw.2 _ (get_mem hk)
            cases hw : (newV res && S1.all fun p => newO p.2) with
            | true =>
              obtain ⟨G3, q1, q2, q3⟩ := new_end h (fun b o hg => (a2.g b o hg).1) p1 p2 p3 (by simp only [Bool.and_eq_true] at hw; exact hw.1) (hnw hw)
              have hb := back_sound h (ks := []) (nks := (List.range S1.length).map (nk + ·)) hnd (by simp) (hnew S fun _ h => h) (ρ1 := ρ1) (G1 := G3) (w1 := w1) (S1 := get S1) q1
                (by rw [show embC ρ [] = fun _ => none from by funext j; simp [embC], show lookC S (fun k => idx [] k 0) [] = fun _ => none from by funext j; simp [lookC]]; exact q2) (by simpa using p4)
              simp only [List.nil_append] at hb
              have ho := over_back (S1 := S1) (keys := (List.range S1.length).map (nk + ·)) (by simpa using hnd) (by simpa using p4) [] S
              rw [over_nil] at ho
              simp only [if_true, List.append_nil] at ho ⊢
              rw [ho]
              exact ⟨u, _, G3, rfl, hb.1, hb.2.1, hb.2.2 u res q3⟩
            | false =>
              have hb := back_sound a1 (ks := []) (nks := (List.range S1.length).map (nk + ·)) hnd (by simp) (hnew (over δ S) hkey) (ρ1 := ρ1) (G1 := G2) (w1 := w1) (S1 := get S1) p1
                (by rw [e0, e1]; exact p2) (by simpa using p4)
              simp only [List.nil_append] at hb
              have ho := over_back (S1 := S1) (keys := (List.range S1.length).map (nk + ·)) (by simpa using hnd) (by simpa using p4) δ S
              simp only [Bool.false_eq_true, if_false]
              rw [ho]
              exact ⟨u, _, G2, rfl, hb.1, a2.trans hb.2.1, hb.2.2 u res p3⟩
        · cases he
    · -- some memory is handed in
      split at he
      · cases he
      · rename_i res S1 hres
        split at he
        · rename_i hfr
          simp only [Bool.and_eq_true, decide_eq_true_eq] at hfr
          simp only [Option.some.injEq] at he
          subst he
          obtain ⟨k1, k2⟩ := reach_spec (look := over δ S) 64 (refsL as) [] (by simp) (by simp)
          generalize hks : reach (over δ S) 64 (refsL as) [] = ks at *
          obtain ⟨g1, g2, g3⟩ := putAll_get (look := over δ S) (f := fun k => idx ks k 0) (n := 0) k2
          have hS0 : get (putAll (over δ S) (fun k => idx ks k 0) ks 0) = lookC (over δ S) (fun k => idx ks k 0) ks := by
            funext j
            have := g2 j
            rw [Nat.zero_add] at this
            rw [this]
            rfl
          have hent := enter_sound a1 k1 k2
          rw [← hS0, ← g1] at hent
          refine (hcf g (renL (fun k => idx ks k 0) as) _ res S1 hres vals _ G1 w (fun j => ?_) hent.1 hgl1 (by rw [hl, renL_length, a3]) (fun i v s hv hs => ?_)).mono ?_
          · rw [hS0, g1]
            unfold lookC
            constructor
            · intro hj
              cases hkj : ks[j]? with
              | none => rw [hkj] at hj; exact absurd rfl hj
              | some k => exact (List.getElem?_eq_some_iff.1 hkj).1
            · intro hj
              obtain ⟨ob, hob⟩ := Option.ne_none_iff_exists'.1 (k2 ks[j] (List.getElem_mem hj))
              simp [List.getElem?_eq_getElem hj, hob]
          · rw [renL_get] at hs
            cases hsi : as[i]? with
            | none => rw [hsi] at hs; cases hs
            | some s' =>
              rw [hsi] at hs
              cases hs
              obtain ⟨s0, rfl, h0⟩ := a5 i v s' (by simpa using hv) hsi
              exact hent.2 v s0 h0
          · rintro en w1 ⟨u, ρ1, G2, rfl, p1, p2, p3, p4⟩
            have hle : ks.length ≤ S1.length := by
              rcases Nat.eq_zero_or_pos ks.length with h0 | h0
              · omega
              · have hj : ks.length - 1 < ks.length := by omega
                obtain ⟨ob, hob⟩ := Option.ne_none_iff_exists'.1 (k2 ks[ks.length - 1] (List.getElem_mem hj))
                obtain ⟨ob', e1, _⟩ := p2.key (ks.length - 1) (renO (fun k => idx ks k 0) (demO ob)) trivial (by rw [hS0]; simp [lookC, List.getElem?_eq_getElem hj, hob])
                have := (p4 (ks.length - 1)).1 (by rw [e1]; simp)
                omega
            have hnd : (ks ++ (List.range (S1.length - ks.length)).map (nk + ·)).Nodup := by
              rw [List.nodup_append]
              refine ⟨k1, nodup_keys nk _, fun a ha b hb => ?_⟩
              obtain ⟨i, hi, rfl⟩ := List.mem_map.1 hb
              have hi := List.mem_range.1 hi
              rintro rfl
              exact hkey _ (k2 _ ha) (fresh_get hfr.1 (nk + i) (by omega) (by omega))
            have hnew : ∀ k ∈ (List.range (S1.length - ks.length)).map (nk + ·), n0 ≤ k ∧ over δ S k = none := by
              intro k hk
              obtain ⟨i, hi, rfl⟩ := List.mem_map.1 hk
              have hi := List.mem_range.1 hi
              refine ⟨by omega, ?_⟩
              cases hc : over δ S (nk + i) with
              | none => rfl
              | some ob => exact absurd (fresh_get hfr.1 (nk + i) (by omega) (by omega)) (hkey _ (by rw [hc]; simp))
            have hfull : ∀ i, get S1 i ≠ none ↔ i < (ks ++ (List.range (S1.length - ks.length)).map (nk + ·)).length := by
              intro i
              rw [p4 i]
              simp
              omega
            have hb := back_sound a1 hnd k2 hnew (ρ1 := ρ1) (G1 := G2) (w1 := w1) (S1 := get S1) (by rw [g1] at p1; exact p1) (by rw [g1, hS0] at p2; exact p2) hfull
            have ho := over_back (S1 := S1) hnd hfull δ S
            rw [g1] at p3
            simp only
            rw [ho]
            exact ⟨u, _, G2, rfl, hb.1, a2.trans hb.2.1, hb.2.2 u res p3⟩
        · cases he

end
end Go.Proofs.YticdhmcbooabaaaDoor.V
