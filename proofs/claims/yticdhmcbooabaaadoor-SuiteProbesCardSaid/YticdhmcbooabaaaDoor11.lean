/- V11: keys renamed; a frame seen from another. No claim. -/
import Derived.Test.YticdhmcbooabaaaDoor10
set_option linter.unusedVariables false
set_option linter.unusedSimpArgs false
namespace Go.Proofs.YticdhmcbooabaaaDoor.V
open Go

section
variable {B B' n0 n0' : Nat} {ρ ρ' : Emb} {G : Cs} {w : World} {S S' : Look} {P : Program} {E : Env} {f : Nat → Option Nat}

theorem renL_get (f : Nat → Option Nat) (l : List SV) (i : Nat) : (renL f l)[i]? = (l[i]?).map (ren f) := by
  induction l generalizing i with
  | nil => simp [renL]
  | cons v r ih => cases i <;> simp [renL, ih]

theorem renL_length (f : Nat → Option Nat) (l : List SV) : (renL f l).length = l.length := by
  induction l with
  | nil => rfl
  | cons v r ih => simp [renL, ih]

theorem demL_get (l : List SV) (i : Nat) : (demL l)[i]? = (l[i]?).map dem := by
  induction l generalizing i with
  | nil => simp [demL]
  | cons v r ih => cases i <;> simp [demL, ih]

theorem demL_length (l : List SV) : (demL l).length = l.length := by
  induction l with
  | nil => rfl
  | cons v r ih => simp [demL, ih]

theorem renE_get (f : Nat → Option Nat) (l : List (PV × SV)) (i : Nat) : (renE f l)[i]? = (l[i]?).map fun p => (p.1, ren f p.2) := by
  induction l generalizing i with
  | nil => simp [renE]
  | cons v r ih => obtain ⟨x, v⟩ := v; cases i <;> simp [renE, ih]

theorem renE_length (f : Nat → Option Nat) (l : List (PV × SV)) : (renE f l).length = l.length := by
  induction l with
  | nil => rfl
  | cons v r ih => obtain ⟨x, v⟩ := v; simp [renE, ih]

theorem demE_get (l : List (PV × SV)) (i : Nat) : (demE l)[i]? = (l[i]?).map fun p => (p.1, dem p.2) := by
  induction l generalizing i with
  | nil => simp [demE]
  | cons v r ih => obtain ⟨x, v⟩ := v; cases i <;> simp [demE, ih]

theorem demE_length (l : List (PV × SV)) : (demE l).length = l.length := by
  induction l with
  | nil => rfl
  | cons v r ih => obtain ⟨x, v⟩ := v; simp [demE, ih]

theorem isRow_ren (f : Nat → Option Nat) (ob : Ob) : isRow (renO f ob) = isRow ob := by cases ob <;> rfl
theorem isRow_dem (ob : Ob) : isRow (demO ob) = isRow ob := by cases ob <;> rfl
theorem prot_ren (f : Nat → Option Nat) (ob : Ob) (o : Nat) {d : Nat} : prot d (renO f ob) o = prot d ob o := by cases ob <;> rfl
theorem prot_dem (ob : Ob) (o : Nat) {d : Nat} : prot d (demO ob) o = prot d ob o := by cases ob <;> rfl

structure Ren (f : Nat → Option Nat) (ρ ρ' : Emb) (n0 n0' : Nat) (S S' : Look) : Prop where
  emb : ∀ k j, f k = some j → ρ' j = ρ k
  ob : ∀ k j ob, f k = some j → S k = some ob → S' j = some (renO f ob)
  new : ∀ k j z lim xs, f k = some j → S k = some (.row true z lim xs) → n0' ≤ j → n0 ≤ k

theorem Gm.base {B B' : Nat} {m m' : Bool} (hB : B' ≤ B) (h : m' = true → m = true) (b o : Nat) (hb : Gm G B m b o) : Gm G B' m' b o := ⟨hb.1, fun hm => Nat.le_trans hB (hb.2 (h hm))⟩

theorem RelV.ren (hr : Ren f ρ ρ' n0 n0' S S') (hB : B' ≤ B) {v : Value} {s : SV} (h : RelV ρ G B n0 w S v s) : RelV ρ' G B' n0' w S' v (V.ren f s) := by
  induction h with
  | pure m x v h => exact .pure m x v (h.weaken (Gm.base hB id))
  | row k len A cap m z lim xs hk h =>
    simp only [V.ren]
    split
    · rename_i j hj
      refine .row j len A cap m z lim xs (hr.ob k j _ hj hk) ?_
      rcases h with ⟨h1, h2⟩ | ⟨h1, h2, h3⟩
      · exact .inl ⟨h1, by rw [hr.emb k j hj]; exact h2⟩
      · refine .inr ⟨h1, h2, h3.weaken (Gm.base hB ?_)⟩
        simp only [Bool.and_eq_true, decide_eq_true_eq]
        rintro ⟨rfl, h⟩
        exact ⟨rfl, hr.new k j _ _ _ hj hk h⟩
    · exact .dead _
  | ptr k off b c ob hk hrow h =>
    simp only [V.ren]
    split
    · rename_i j hj
      exact .ptr j off b c _ (hr.ob k j _ hj hk) (by rw [isRow_ren]; exact hrow) (by rw [hr.emb k j hj]; exact h)
    · exact .dead _
  | eptr k len i r v m z lim xs hk hi hle h =>
    simp only [V.ren]
    split
    · rename_i j hj
      exact .eptr j len i r v m z lim xs (hr.ob k j _ hj hk) hi hle (fun he => by rw [hr.emb k j hj]; exact h he)
    · exact .dead _
  | tl k len i v m z lim xs hk hi hle h =>
    simp only [V.ren]
    split
    · rename_i j hj
      exact .tl j len i v m z lim xs (hr.ob k j _ hj hk) hi hle (fun he => by rw [hr.emb k j hj]; exact h he)
    · exact .dead _
  | hd k len q A cap m z lim xs hk hi hle h =>
    simp only [V.ren]
    split
    · rename_i j hj
      exact .hd j len q A cap m z lim xs (hr.ob k j _ hj hk) hi hle (fun he => by rw [hr.emb k j hj]; exact h he)
    · exact .dead _
  | rptr m cs b off hp hc =>
    exact .rptr m cs b off hp fun i c hi => by
      obtain ⟨v, h1, h2, h3⟩ := hc i c hi
      exact ⟨v, h1, h2, h3.weaken (Gm.base hB id)⟩
  | map k b c ob hk hrow h =>
    simp only [V.ren]
    split
    · rename_i j hj
      exact .map j b c _ (hr.ob k j _ hj hk) (by rw [isRow_ren]; exact hrow) (by rw [hr.emb k j hj]; exact h)
    · exact .dead _
  | iter k b c ob hk hrow h =>
    simp only [V.ren]
    split
    · rename_i j hj
      exact .iter j b c _ (hr.ob k j _ hj hk) (by rw [isRow_ren]; exact hrow) (by rw [hr.emb k j hj]; exact h)
    · exact .dead _
  | view k off z n b c cap ob hk hrow h hcap =>
    simp only [V.ren]
    split
    · rename_i j hj
      exact .view j off z n b c cap _ (hr.ob k j _ hj hk) (by rw [isRow_ren]; exact hrow) (by rw [hr.emb k j hj]; exact h) hcap
    · exact .dead _
  | clo g caps vs hl hc ih =>
    refine .clo g _ vs (by rw [renL_length]; exact hl) fun i v c hv hcc => ?_
    rw [renL_get] at hcc
    cases hci : caps[i]? with
    | none => rw [hci] at hcc; cases hcc
    | some c0 => rw [hci] at hcc; cases hcc; exact ih i v c0 hv hci
  | tuple cs vs hl hc ih =>
    refine .tuple _ vs (by rw [renL_length]; exact hl) fun i v c hv hcc => ?_
    rw [renL_get] at hcc
    cases hci : cs[i]? with
    | none => rw [hci] at hcc; cases hcc
    | some c0 => rw [hci] at hcc; cases hcc; exact ih i v c0 hv hci
  | agg cs vs hl hc hp ih =>
    refine .agg _ vs (by rw [renL_length]; exact hl) (fun i v c hv hcc => ?_) hp
    rw [renL_get] at hcc
    cases hci : cs[i]? with
    | none => rw [hci] at hcc; cases hcc
    | some c0 => rw [hci] at hcc; cases hcc; exact ih i v c0 hv hci
  | dead v => exact .dead v

theorem RelO.ren (hr : Ren f ρ ρ' n0 n0' S S') (hB : B' ≤ B) {k j : Nat} (hj : f k = some j) {ob : Ob} (h : RelO ρ G B n0 w S k ob) : RelO ρ' G B' n0' w S' j (renO f ob) := by
  have he := hr.emb k j hj
  cases ob with
  | box cs =>
    obtain ⟨b, c, cells, T, fr, h1, h2, h3, h4, h5⟩ := h
    refine ⟨b, c, cells, T, fr, he ▸ h1, h2, h3, by rw [renL_length]; exact h4, fun i v s hv hs => ?_⟩
    rw [renL_get] at hs
    cases hci : cs[i]? with
    | none => rw [hci] at hs; cases hs
    | some c0 => rw [hci] at hs; cases hs; exact ⟨(h5 i v c0 hv hci).1.ren hr hB, (h5 i v c0 hv hci).2⟩
  | fbox m cs =>
    obtain ⟨b, c, cells, T, fr, h1, h2, h3, h4, h5⟩ := h
    exact ⟨b, c, cells, T, fr, he ▸ h1, h2, h3, h4, fun i v s hv hs => ⟨(h5 i v s hv hs).1.weaken (Gm.base hB id), (h5 i v s hv hs).2⟩⟩
  | row m z lim xs =>
    obtain ⟨h1, h2, h3⟩ := h
    refine ⟨h1, fun hn => h2 (he ▸ hn), fun b cap d hb => ?_⟩
    obtain ⟨h4, h5, cells, T, fr, vs, h6, h7, h8, h9, h10⟩ := h3 b cap d (he ▸ hb)
    exact ⟨h4, h5, cells, T, fr, vs, h6, h7, h8, h9, fun j x hj => ⟨(h10 j x hj).1, (h10 j x hj).2.1.weaken (Gm.base hB id), (h10 j x hj).2.2⟩⟩
  | map m es =>
    obtain ⟨b, c, en, clock, h1, h2, h3, h4⟩ := h
    exact ⟨b, c, en, clock, he ▸ h1, h2, h3, fun i e p he hp => ⟨(h4 i e p he hp).1.weaken (Gm.base hB id), (h4 i e p he hp).2.1, (h4 i e p he hp).2.2.weaken (Gm.base hB id)⟩⟩
  | maps es =>
    obtain ⟨b, c, en, clock, h1, h2, h3, h4⟩ := h
    refine ⟨b, c, en, clock, he ▸ h1, h2, by rw [renE_length]; exact h3, fun i e p he hp => ?_⟩
    rw [renE_get] at hp
    cases hci : es[i]? with
    | none => rw [hci] at hp; cases hp
    | some c0 => rw [hci] at hp; cases hp; exact ⟨(h4 i e c0 he hci).1, (h4 i e c0 he hci).2.1, (h4 i e c0 he hci).2.2.ren hr hB⟩
  | iter s pos =>
    obtain ⟨b, c, h1, h2⟩ := h
    exact ⟨b, c, he ▸ h1, h2⟩

theorem RelV.dem {B2 n2 : Nat} {S2 : Look} (hd : ∀ k ob, S k = some ob → S2 k = some (demO ob)) {v : Value} {s : SV} (h : RelV ρ G B n0 w S v s) : RelV ρ G B2 n2 w S2 v (V.dem s) := by
  have hg : ∀ (m : Bool) b o, Gm G B m b o → Gm G B2 false b o := fun m b o hb => ⟨hb.1, fun h => by cases h⟩
  induction h with
  | pure m x v h =>
    simp only [V.dem]
    by_cases hs : (norm x).scalar = true
    · exact .pure _ _ v (h.norm.scalar hs)
    · have : (m && (norm x).scalar) = false := by simp_all
      rw [this]
      exact .pure _ _ v (h.norm.weaken (hg m))
  | row k len A cap m z lim xs hk h =>
    refine .row k len A cap false z lim xs (hd k _ hk) ?_
    rcases h with ⟨h1, h2⟩ | ⟨h1, h2, h3⟩
    · exact .inl ⟨h1, h2⟩
    · exact .inr ⟨h1, h2, h3.weaken (hg _)⟩
  | ptr k off b c ob hk hrow h => exact .ptr k off b c _ (hd k _ hk) (by rw [isRow_dem]; exact hrow) h
  | eptr k len i r v m z lim xs hk hi hle h => exact .eptr k len i r v false z lim xs (hd k _ hk) hi hle h
  | tl k len i v m z lim xs hk hi hle h => exact .tl k len i v false z lim xs (hd k _ hk) hi hle h
  | hd k len q A cap m z lim xs hk hi hle h => exact .hd k len q A cap false z lim xs (hd k _ hk) hi hle h
  | rptr m cs b off hp hc =>
    exact .rptr false cs b off hp fun i c hi => by
      obtain ⟨v, h1, h2, h3⟩ := hc i c hi
      exact ⟨v, h1, h2, h3.weaken (hg m)⟩
  | map k b c ob hk hrow h => exact .map k b c _ (hd k _ hk) (by rw [isRow_dem]; exact hrow) h
  | iter k b c ob hk hrow h => exact .iter k b c _ (hd k _ hk) (by rw [isRow_dem]; exact hrow) h
  | view k off z n b c cap ob hk hrow h hcap => exact .view k off z n b c cap _ (hd k _ hk) (by rw [isRow_dem]; exact hrow) h hcap
  | clo g caps vs hl hc ih =>
    refine .clo g _ vs (by rw [demL_length]; exact hl) fun i v c hv hcc => ?_
    rw [demL_get] at hcc
    cases hci : caps[i]? with
    | none => rw [hci] at hcc; cases hcc
    | some c0 => rw [hci] at hcc; cases hcc; exact ih i v c0 hv hci
  | tuple cs vs hl hc ih =>
    refine .tuple _ vs (by rw [demL_length]; exact hl) fun i v c hv hcc => ?_
    rw [demL_get] at hcc
    cases hci : cs[i]? with
    | none => rw [hci] at hcc; cases hcc
    | some c0 => rw [hci] at hcc; cases hcc; exact ih i v c0 hv hci
  | agg cs vs hl hc hp ih =>
    refine .agg _ vs (by rw [demL_length]; exact hl) (fun i v c hv hcc => ?_) hp
    rw [demL_get] at hcc
    cases hci : cs[i]? with
    | none => rw [hci] at hcc; cases hcc
    | some c0 => rw [hci] at hcc; cases hcc; exact ih i v c0 hv hci
  | dead v => exact .dead v

theorem RelO.dem {B2 n2 : Nat} {S2 : Look} (hd : ∀ k ob, S k = some ob → S2 k = some (demO ob)) {k : Nat} {ob : Ob} (h : RelO ρ G B n0 w S k ob) : RelO ρ G B2 n2 w S2 k (demO ob) := by
  have hg : ∀ (m : Bool) b o, Gm G B m b o → Gm G B2 false b o := fun m b o hb => ⟨hb.1, fun h => by cases h⟩
  cases ob with
  | box cs =>
    obtain ⟨b, c, cells, T, fr, h1, h2, h3, h4, h5⟩ := h
    refine ⟨b, c, cells, T, fr, h1, h2, h3, by rw [demL_length]; exact h4, fun i v s hv hs => ?_⟩
    rw [demL_get] at hs
    cases hci : cs[i]? with
    | none => rw [hci] at hs; cases hs
    | some c0 => rw [hci] at hs; cases hs; exact ⟨(h5 i v c0 hv hci).1.dem hd, (h5 i v c0 hv hci).2⟩
  | fbox m cs =>
    obtain ⟨b, c, cells, T, fr, h1, h2, h3, h4, h5⟩ := h
    exact ⟨b, c, cells, T, fr, h1, h2, h3, h4, fun i v s hv hs => ⟨(h5 i v s hv hs).1.weaken (hg m), (h5 i v s hv hs).2⟩⟩
  | row m z lim xs =>
    obtain ⟨h1, h2, h3⟩ := h
    refine ⟨h1, h2, fun b cap d hb => ?_⟩
    obtain ⟨h4, h5, cells, T, fr, vs, h6, h7, h8, h9, h10⟩ := h3 b cap d hb
    exact ⟨h4, h5, cells, T, fr, vs, h6, h7, h8, h9, fun j x hj => ⟨(h10 j x hj).1, (h10 j x hj).2.1.weaken (hg m), (h10 j x hj).2.2⟩⟩
  | map m es =>
    obtain ⟨b, c, en, clock, h1, h2, h3, h4⟩ := h
    exact ⟨b, c, en, clock, h1, h2, h3, fun i e p he hp => ⟨(h4 i e p he hp).1.scalar (h4 i e p he hp).2.1, (h4 i e p he hp).2.1, (h4 i e p he hp).2.2.weaken (hg m)⟩⟩
  | maps es =>
    obtain ⟨b, c, en, clock, h1, h2, h3, h4⟩ := h
    refine ⟨b, c, en, clock, h1, h2, by rw [demE_length]; exact h3, fun i e p he hp => ?_⟩
    rw [demE_get] at hp
    cases hci : es[i]? with
    | none => rw [hci] at hp; cases hp
    | some c0 => rw [hci] at hp; cases hp; exact ⟨(h4 i e c0 he hci).1, (h4 i e c0 he hci).2.1, (h4 i e c0 he hci).2.2.dem hd⟩
  | iter s pos =>
    obtain ⟨b, c, h1, h2⟩ := h
    exact ⟨b, c, h1, h2⟩

end
end Go.Proofs.YticdhmcbooabaaaDoor.V
