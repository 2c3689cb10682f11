/- V6: parts, places, slices of slices, conversions, lengths, iterators. No claim. -/
import Derived.Test.YticdhmcbooabaaaDoor5
set_option linter.unusedVariables false
set_option linter.unusedSimpArgs false
namespace Go.Proofs.YticdhmcbooabaaaDoor.V
open Go

section
variable {B n0 : Nat} {ρ : Emb} {G : Cs} {w : World} {S : Look} {P : Program}

theorem intOf_val {v : Value} {s : SV} (hv : RelV ρ G B n0 w S v s) {n : Int} (h : intOf s = some n) : ∃ k, v = .int k n := by
  unfold intOf at h
  split at h
  · rename_i m k n'
    simp only [Option.some.injEq] at h
    subst h
    cases hv with
    | pure _ _ _ hv => cases hv; exact ⟨k, rfl⟩
  · cases h

theorem run_bound {v : Option Value} {s : Option SV} {d l y : Nat} {code : BoundsCode} (hv : ∀ u t, v = some u → s = some t → RelV ρ G B n0 w S u t) (hs : s.isSome = v.isSome) (h : bound s d = some l) (hy : l ≤ y) :
    (match v with | some u => Instr.sliceBound u y code | none => pure d : Sem Nat).run P w = .ok l w := by
  cases v with
  | none =>
    cases s with
    | none => simp only [bound, Option.some.injEq] at h; subst h; rfl
    | some t => simp at hs
  | some u =>
    cases s with
    | none => simp at hs
    | some t =>
      simp only [bound] at h
      split at h
      · rename_i n hn
        split at h
        · rename_i h0
          simp only [Option.some.injEq] at h
          subst h
          obtain ⟨k, rfl⟩ := intOf_val (hv u t rfl rfl) hn
          simp only [Instr.sliceBound, asIntOf, Sem.run_bind, Sem.run_pure, Result.andThen_ok]
          rw [if_pos ⟨h0, by omega⟩]
          rfl
        · cases h
      · cases h

theorem run_bounds {sl : Bool} {len cap : Nat} {lo hi : Option Value} {slo shi : Option SV} {l h : Nat} (hlo : ∀ u t, lo = some u → slo = some t → RelV ρ G B n0 w S u t) (hhi : ∀ u t, hi = some u → shi = some t → RelV ρ G B n0 w S u t)
    (elo : slo.isSome = lo.isSome) (ehi : shi.isSome = hi.isSome) (bl : bound slo 0 = some l) (bh : bound shi len = some h) (h1 : l ≤ h) (h2 : h ≤ len) (h3 : len ≤ cap) :
    (Instr.sliceBounds sl len cap lo hi none).run P w = .ok (l, h, cap) w := by
  have e1 := run_bound (P := P) (y := cap) (code := if sl then .sliceAcap else .sliceAlen) hhi ehi bh (by omega)
  have e2 := run_bound (P := P) (y := h) (code := .sliceB) hlo elo bl h1
  unfold Instr.sliceBounds
  simp only [Sem.run_bind, Sem.run_pure, Result.andThen_ok]
  cases hi with
  | none =>
    simp only [Sem.run_pure, Result.andThen_ok] at e1 ⊢
    cases e1
    cases lo with
    | none => simp only [Sem.run_pure, Result.andThen_ok] at e2 ⊢; cases e2; rfl
    | some v => simp only [Option.isSome_none, Bool.false_eq_true, if_false, Sem.run_bind, Sem.run_pure, Result.andThen_ok] at e2 ⊢; rw [e2]; rfl
  | some u =>
    simp only [Sem.run_bind] at e1 ⊢
    rw [e1]
    simp only [Result.andThen_ok, Sem.run_bind]
    cases lo with
    | none => simp only [Sem.run_pure, Result.andThen_ok] at e2 ⊢; cases e2; rfl
    | some v => simp only [Option.isSome_none, Bool.false_eq_true, if_false, Sem.run_bind, Sem.run_pure, Result.andThen_ok] at e2 ⊢; rw [e2]; rfl

/-- A part of a slice. -/
theorem rep_part {G : Cs} {A : Option Addr} {n cap l h z : Nat} {xs : List PV} (hr : RepV G w (.slice A n cap) (.sl xs)) (hw : allW z xs = true) (hz : 0 < z) (h1 : l ≤ h) (h2 : h ≤ xs.length) (cap' : Nat) (A' : Option Addr)
    (hcap' : h - l ≤ cap') (hA : 0 < h - l → A' = A.map (·.add (l * z))) : RepV G w (.slice A' (h - l) cap') (.sl ((xs.drop l).take (h - l))) := by
  by_cases h0 : h - l = 0
  · rw [h0]; exact .nil _ _
  · cases hr with
    | nil => simp at h2; omega
    | sl b off _ _ z' _ vs hn hz' hcap he hw' hm =>
      have hzz : z' = z := by
        have e : xs[0]? = some (xs[0]'(by omega)) := List.getElem?_eq_getElem (by omega)
        rw [← hw' 0 _ e, allW_get hw 0 _ e]
      subst hzz
      rw [hA (by omega)]
      simp only [Option.map_some, add_at]
      have hx : ∀ (j : Nat) x, ((xs.drop l).take (h - l))[j]? = some x → j < h - l ∧ xs[l + j]? = some x := fun j x hj => take_drop_get hj
      refine .sl b (off + l * z') (h - l) cap' z' _ (fun j => vs (l + j)) (by simp; omega) hz hcap' (fun j x hj => he _ _ (hx j x hj).2) (fun j x hj => hw' _ _ (hx j x hj).2) fun j x i v hj hv => ?_
      have := hm (l + j) x i v (hx j x hj).2 hv
      rw [show off + l * z' + j * z' + i = off + (l + j) * z' + i by rw [Nat.add_mul]; omega]
      exact this

theorem slice_sound (h : SInv ρ G B n0 w S) {t : TypeId} {v : Value} {x : SV} {lo hi : Option Value} {slo shi : Option SV} (hv : RelV ρ G B n0 w S v x)
    (hlo : ∀ u t, lo = some u → slo = some t → RelV ρ G B n0 w S u t) (hhi : ∀ u t, hi = some u → shi = some t → RelV ρ G B n0 w S u t)
    (elo : slo.isSome = lo.isSome) (ehi : shi.isSome = hi.isSome) {e : Eff} (he : sliceV P n0 S t x slo shi = some e) : Comes1 P B n0 ρ G w S (Instr.sliceAt t v lo hi none) e := by
  unfold sliceV at he
  split at he
  · rename_i m s hu
    cases hv with
    | pure _ _ _ hv =>
      cases hv with
      | str s =>
        split at he
        · rename_i l h' bl bh
          split at he
          · rename_i hc
            simp only [Option.some.injEq] at he
            subst he
            have hb := run_bounds (P := P) (sl := false) (len := s.size) (cap := s.size) hlo hhi elo ehi bl (by simpa using bh) hc.1 (by simpa using hc.2) (Nat.le_refl _)
            refine Comes1.still h (u := .string (s.extract l h')) ?_ rfl ?_
            · unfold Instr.sliceAt
              simp only [Sem.run_bind, run_underlying hu, Result.andThen_ok]
              unfold Instr.slice
              simp only [Sem.run_bind, run_underlying hu, Result.andThen_ok, Option.isSome_none, Bool.false_eq_true, if_false, hb, Sem.run_pure]
            · have : (s.extract l h').data.toList = (s.data.toList.drop l).take (h' - l) := by
                rw [ByteArray.data_extract, Array.toList_extract, List.extract_eq_take_drop]
              rw [← this]
              exact .pure _ _ _ (.str _)
          · cases he
        · cases he
  · rename_i el m xs hu
    cases hv with
    | pure _ _ _ hv =>
      split at he
      · rename_i l h' bl bh
        split at he
        · rename_i hc
          simp only [Option.some.injEq] at he
          subst he
          obtain ⟨A, cap, rfl, hcap⟩ : ∃ A cap, v = .slice A xs.length cap ∧ xs.length ≤ cap := by
            cases hv with
            | nil A cap => exact ⟨A, cap, rfl, Nat.zero_le _⟩
            | sl b off n cap z _ vs hn hz hcap => exact ⟨_, cap, by rw [hn], by omega⟩
          have hb := run_bounds (P := P) (sl := true) (len := xs.length) (cap := cap) hlo hhi elo ehi bl bh hc.1 hc.2.1 hcap
          refine Comes1.still h (u := .slice (if cap = l then A else A.map (·.add (l * P.cellsOf el))) (h' - l) (cap - l)) ?_ rfl (.pure _ _ _ (rep_part hv hc.2.2.2 hc.2.2.1 hc.1 hc.2.1 _ _ (by omega) (fun hp => by rw [if_neg (by omega)])))
          unfold Instr.sliceAt
          simp only [Sem.run_bind, run_underlying hu, Result.andThen_ok]
          unfold Instr.slice
          simp only [Sem.run_bind, run_underlying hu, Result.andThen_ok, hb, run_sizeV hc.2.2.1, Sem.run_pure]
        · cases he
      · cases he
  · rename_i el k n hu
    split at he
    · rename_i m xs δ hf
      split at he
      · rename_i l h' bl bh
        split at he
        · rename_i hc
          simp only [Option.some.injEq] at he
          subst he
          obtain ⟨G', a1, a2, a3⟩ := freeze_sound h hv hf
          obtain ⟨A, cap, rfl, hcap⟩ : ∃ A cap, v = .slice A xs.length cap ∧ xs.length ≤ cap := by
            cases a3 with
            | nil A cap => exact ⟨A, cap, rfl, Nat.zero_le _⟩
            | sl b off n cap z _ vs hn hz hcap => exact ⟨_, cap, by rw [hn], by omega⟩
          have hb := run_bounds (P := P) (sl := true) (len := xs.length) (cap := cap) hlo hhi elo ehi bl bh hc.1 hc.2.1 hcap
          refine ⟨.slice (if cap = l then A else A.map (·.add (l * P.cellsOf el))) (h' - l) (cap - l), ρ, G', w, ?_, a1, a2, .pure _ _ _ (rep_part a3 hc.2.2.2 hc.2.2.1 hc.1 hc.2.1 _ _ (by omega) (fun hp => by rw [if_neg (by omega)]))⟩
          unfold Instr.sliceAt
          simp only [Sem.run_bind, run_underlying hu, Result.andThen_ok]
          unfold Instr.slice
          simp only [Sem.run_bind, run_underlying hu, Result.andThen_ok, hb, run_sizeV hc.2.2.1, Sem.run_pure]
        · cases he
      · cases he
    · cases he
  · rename_i n el k off hu
    split at he
    · rename_i l h' bl bh
      split at he
      · rename_i hc
        simp only [Option.some.injEq] at he
        subst he
        cases hv with
        | ptr _ _ b c ob hk hr hb' =>
          have hb := run_bounds (P := P) (sl := false) (len := n) (cap := n) hlo hhi elo ehi bl bh hc.1 hc.2.1 (Nat.le_refl _)
          have hnl : ¬ n = l := by omega
          refine Comes1.still h (u := .slice (some ⟨b, off + l * P.cellsOf el, none⟩) (h' - l) (n - l)) ?_ rfl (.view k _ _ _ b c _ ob hk hr hb' (by omega))
          unfold Instr.sliceAt
          simp only [Sem.run_bind, run_underlying hu, Result.andThen_ok, Instr.sureAddr, Sem.run_pure, hb, run_sizeV hc.2.2.1, hnl, if_false, add_at]
      · cases he
    · cases he
  · cases he

/-- What is left of a row goes on as a row of its own; the row itself is told no more: what was made of it stays as it is. -/
theorem tail_sound (h : SInv ρ G B n0 w S) {nk : Nat} (hn : n0 ≤ nk) {t : TypeId} {v : Value} {x : SV} {lo hi : Option Value} {slo shi : Option SV} (hv : RelV ρ G B n0 w S v x)
    (hlo : ∀ u t, lo = some u → slo = some t → RelV ρ G B n0 w S u t) (hhi : ∀ u t, hi = some u → shi = some t → RelV ρ G B n0 w S u t)
    (elo : slo.isSome = lo.isSome) (ehi : shi.isSome = hi.isSome) {q : TailQ} (hq : tailQ P n0 S t x slo shi = some q) (hk0 : n0 ≤ q.k) (hnk : S nk = none) :
    Comes1 P B n0 ρ G w S (Instr.sliceAt t v lo hi none) { res := .row nk (q.n - q.l), wr := [(nk, .row q.m q.z (q.n - q.l) (q.xs.drop q.l)), (q.k, .row q.m q.z q.n (q.xs ++ [.bool false]))], rd := some [nk, q.k] } := by
  unfold tailQ at hq
  split at hq
  · rename_i hsw
    split at hq
    · rename_i el k n hu
      split at hq
      · rename_i m z lim xs hk
        split at hq
        · rename_i l bl
          split at hq
          · rename_i hc
            obtain ⟨c1, c2, c3, c4, c5⟩ := hc
            cases hq
            simp only at hk0 ⊢
            have hne : nk ≠ k := by
              rintro rfl
              rw [hnk] at hk
              cases hk
            cases hv with
            | row _ _ A cap m1 z1 lim1 xs1 hk1 hr =>
              rw [hk] at hk1
              cases hk1
              obtain ⟨o1, o2, o3⟩ := h.obj k _ hk
              rcases hr with ⟨_, ht⟩ | ⟨_, h2, _⟩
              · cases hb : ρ k with
                | none =>
                  rw [hb] at ht
                  have := ht.2.2
                  subst this
                  simp at c3
                  omega
                | some p =>
                  obtain ⟨b, c, f⟩ := p
                  rw [hb] at ht
                  obtain ⟨rfl, rfl⟩ := ht
                  obtain ⟨o4, o5, cells, T, fr, vs, o6, o7, o8, o9, o10⟩ := o3 b cap f hb
                  have bh : bound shi n = some n := by
                    simp only [Bool.and_eq_true] at hsw
                    cases shi with
                    | none => rfl
                    | some _ => simp at hsw
                  have hbd := run_bounds (P := P) (sl := true) (len := n) (cap := cap) hlo hhi elo ehi bl bh (by omega) (Nat.le_refl _) (by omega)
                  let ρ' : Emb := fun j => if nk = j then some (b, cap - l, f + l * z) else if k = j then none else ρ j
                  let G' : Cs := fun b' o => G b' o ∨ (b' = b ∧ o < f + n * z)
                  have hS : ∀ j, over [(nk, Ob.row m z (n - l) (xs.drop l)), (k, Ob.row m z n (xs ++ [.bool false]))] S j = if nk = j then some (.row m z (n - l) (xs.drop l)) else if k = j then some (.row m z n (xs ++ [.bool false])) else S j := fun j => by
                    rw [over_cons, over_one]
                  unfold Comes1
                  dsimp only
                  generalize over [(nk, Ob.row m z (n - l) (xs.drop l)), (k, Ob.row m z n (xs ++ [.bool false]))] S = S' at hS ⊢
                  have hrep : ∀ A' cap', Tie (some (b, cap, f)) xs A' cap' → RepV (Gm G' B (m && decide (n0 ≤ k))) w (.slice A' xs.length cap') (.sl ((xs ++ [PV.bool false]).take xs.length)) := fun A' cap' ht' => by
                    obtain ⟨rfl, rfl⟩ := ht'
                    rw [List.take_append_of_le_length (Nat.le_refl _)]
                    refine slice_rep (B := B) (G := G) (mm := m) o4 o6 o10 (Nat.le_refl _) o5 (fun o _ ho => ⟨.inr ⟨rfl, by rw [c3]; exact ho⟩, fun hm => ?_⟩) (fun b' o hg => ⟨.inl hg.1, fun hm => hg.2 (by simp only [Bool.and_eq_true] at hm; exact hm.1)⟩)
                    simp only [Bool.and_eq_true, decide_eq_true_eq] at hm
                    exact h.newk k b _ hm.2 hb
                  have hx : Ext All B n0 ρ G w S ρ' G' w S' := by
                    refine ⟨fun b' o hg => ⟨.inl hg, fun _ hv => hv⟩, fun j ob _ hj => ?_, fun _ _ _ => rfl, fun j b' c' hj => ?_, fun b' o hg => ?_, Nat.le_refl _, rfl, rfl, rfl⟩
                    · by_cases e1 : nk = j
                      · subst e1
                        rw [hnk] at hj
                        cases hj
                      · by_cases e2 : k = j
                        · subst e2
                          rw [hk] at hj
                          cases hj
                          refine ⟨.row m z n (xs ++ [.bool false]), by rw [hS, if_neg e1, if_pos rfl], id, fun _ => rfl, by omega, List.take_append_of_le_length o1, .inr ⟨by simp, by omega, ?_⟩⟩
                          rw [hb]
                          exact hrep
                        · refine ⟨ob, by rw [hS, if_neg e1, if_neg e2]; exact hj, ?_⟩
                          have : ρ' j = ρ j := by simp only [ρ', if_neg e1, if_neg e2]
                          rw [this]
                          exact Ev.refl ..
                    · simp only [ρ'] at hj
                      split at hj
                      · rename_i e1
                        cases hj
                        exact .inl ⟨k, _, hb, fun _ hs => absurd (e1 ▸ hnk) hs⟩
                      · split at hj
                        · cases hj
                        · exact .inl ⟨j, c', hj, fun _ _ => rfl⟩
                    · rcases hg with hg | ⟨rfl, _⟩
                      · exact .inl hg
                      · exact .inr (.inr ⟨k, _, hb⟩)
                  have hinv : SInv ρ' G' B n0 w S' := by
                    refine ⟨?_, ?_, ?_, ?_, ?_, ?_, ?_, h.bsz⟩
                    · intro i j b1 c1' c2' hi hj
                      simp only [ρ'] at hi hj
                      split at hi
                      · cases hi
                        split at hj
                        · subst_vars; rfl
                        · split at hj
                          · cases hj
                          · rename_i e
                            exact absurd (h.inj k j b _ _ hb hj) e
                      · split at hi
                        · cases hi
                        · rename_i e
                          split at hj
                          · cases hj
                            exact absurd (h.inj k i b _ _ hb hi) e
                          · split at hj
                            · cases hj
                            · exact h.inj i j b1 _ _ hi hj
                    · intro j b1 c1' hj
                      simp only [ρ'] at hj
                      split at hj
                      · cases hj; exact h.lt k b _ hb
                      · split at hj
                        · cases hj
                        · exact h.lt j b1 c1' hj
                    · rintro b1 o (hg | ⟨rfl, _⟩)
                      · exact h.gdef b1 o hg
                      · exact h.lt k b1 _ hb
                    · intro j b1 c1' ob o hj hs hg
                      have hnl : l * z + (n - l) * z = n * z := by rw [← Nat.add_mul]; congr 1; omega
                      rw [hS] at hs
                      simp only [ρ'] at hj
                      split at hj
                      · rename_i e1
                        cases hj
                        rw [if_pos e1] at hs
                        cases hs
                        show o < f + l * z + (n - l) * z
                        rcases hg with hg | ⟨_, hg⟩
                        · have := h.gobj k b (cap, f) _ o hb hk hg
                          simp only [prot] at this
                          have := Nat.mul_le_mul_right z (show lim ≤ n by omega)
                          omega
                        · omega
                      · rename_i e1
                        split at hj
                        · cases hj
                        · rename_i e2
                          rw [if_neg e1, if_neg e2] at hs
                          rcases hg with hg | ⟨rfl, _⟩
                          · exact h.gobj j b1 c1' ob o hj hs hg
                          · exact absurd (h.inj k j b1 _ _ hb hj) e2
                    · intro j ob hj
                      rw [hS] at hj
                      split at hj
                      · rename_i e1
                        cases hj
                        subst e1
                        refine ⟨by simp; omega, fun hn' => ?_, fun b1 cap1 f1 hb1 => ?_⟩
                        · simp [ρ'] at hn'
                        · simp only [ρ', if_true, Option.some.injEq, Prod.mk.injEq] at hb1
                          obtain ⟨rfl, rfl, rfl⟩ := hb1
                          have hlc : l * z + (cap - l) * z = cap * z := by rw [← Nat.add_mul]; congr 1; omega
                          refine ⟨o4, by simp; omega, cells, T, fr, fun j => vs (l + j), o6, o7, by omega, fun o _ ho => .inr ⟨rfl, ?_⟩, fun j x hj => ?_⟩
                          · have hnl : l * z + (n - l) * z = n * z := by rw [← Nat.add_mul]; congr 1; omega
                            omega
                          · rw [List.getElem?_drop] at hj
                            obtain ⟨q1, q2, q3⟩ := o10 (l + j) x hj
                            refine ⟨q1, q2.weaken fun b' o hg => ⟨.inl hg.1, hg.2⟩, fun i v hv => ?_⟩
                            have := q3 i v hv
                            rw [Nat.add_mul] at this
                            rw [show f + l * z + j * z + i = f + (l * z + j * z) + i by omega]
                            exact this
                      · rename_i e1
                        split at hj
                        · rename_i e2
                          cases hj
                          subst e2
                          refine ⟨by simp; omega, fun _ => .inr ⟨by simp; omega, fun j x hjl hj => ?_⟩, fun b1 cap1 f1 hb1 => ?_⟩
                          · rw [List.getElem?_append_left (by omega)] at hj
                            exact (o10 j x hj).1
                          · simp [ρ', hne] at hb1
                        · rename_i e2
                          exact (h.obj j ob hj).ext hx (by simp only [ρ', if_neg e1, if_neg e2]) fun _ _ _ => rfl
                    · intro j hj
                      rw [hS] at hj
                      split at hj
                      · cases hj
                      · rename_i e1
                        split at hj
                        · cases hj
                        · rename_i e2
                          simp only [ρ', if_neg e1, if_neg e2]
                          exact h.dom j hj
                    · intro j b1 c1' hn' hj
                      simp only [ρ'] at hj
                      split at hj
                      · cases hj
                        exact h.newk k b _ hk0 hb
                      · split at hj
                        · cases hj
                        · exact h.newk j b1 c1' hn' hj
                  refine ⟨.slice (some ⟨b, f + l * z, none⟩) (n - l) (cap - l), ρ', G', w, ?_, hinv, hx, .row nk _ _ _ m z (n - l) (xs.drop l) (by rw [hS, if_pos rfl]) (.inl ⟨by simp; omega, by simp [ρ', Tie]⟩)⟩
                  have hcl : ¬ cap = l := by omega
                  unfold Instr.sliceAt
                  simp only [Sem.run_bind, run_underlying hu, Result.andThen_ok]
                  unfold Instr.slice
                  simp only [Sem.run_bind, run_underlying hu, Result.andThen_ok, hbd, run_sizeV (c4 ▸ c5), Sem.run_pure, if_neg hcl, Option.map_some, add_at, ← c4]
              · omega
          · cases hq
        · cases hq
      · cases hq
    · cases hq
  · cases hq

theorem tl_sound (h : SInv ρ G B n0 w S) {t : TypeId} {v : Value} {x : SV} {lo hi : Option Value} {slo shi : Option SV} (hv : RelV ρ G B n0 w S v x)
    (hlo : ∀ u t, lo = some u → slo = some t → RelV ρ G B n0 w S u t) (hhi : ∀ u t, hi = some u → shi = some t → RelV ρ G B n0 w S u t)
    (elo : slo.isSome = lo.isSome) (ehi : shi.isSome = hi.isSome) {q : TailQ} (hq : tailQ P n0 S t x slo shi = some q) :
    Comes1 P B n0 ρ G w S (Instr.sliceAt t v lo hi none) { res := .tl q.k q.n q.l, rd := some [q.k] } := by
  unfold tailQ at hq
  split at hq
  · rename_i hsw
    split at hq
    · rename_i el k n hu
      split at hq
      · rename_i m z lim xs hk
        split at hq
        · rename_i l bl
          split at hq
          · rename_i hc
            obtain ⟨c1, c2, c3, c4, c5⟩ := hc
            cases hq
            cases hv with
            | row _ _ A cap m1 z1 lim1 xs1 hk1 hr =>
              rw [hk] at hk1
              cases hk1
              obtain ⟨o1, o2, o3⟩ := h.obj k _ hk
              rcases hr with ⟨_, ht⟩ | ⟨_, h2, _⟩
              · cases hb : ρ k with
                | none =>
                  rw [hb] at ht
                  have := ht.2.2
                  subst this
                  simp at c3
                  omega
                | some p =>
                  obtain ⟨b, c, f⟩ := p
                  rw [hb] at ht
                  obtain ⟨rfl, rfl⟩ := ht
                  obtain ⟨o4, o5, cells, T, fr, vs, o6, o7, o8, o9, o10⟩ := o3 b cap f hb
                  have bh : bound shi n = some n := by
                    simp only [Bool.and_eq_true] at hsw
                    cases shi with
                    | none => rfl
                    | some _ => simp at hsw
                  have hbd := run_bounds (P := P) (sl := true) (len := n) (cap := cap) hlo hhi elo ehi bl bh (by omega) (Nat.le_refl _) (by omega)
                  refine Comes1.still h (u := .slice (some ⟨b, f + l * z, none⟩) (n - l) (cap - l)) ?_ rfl (.tl k n l _ m z lim xs hk c2 (by omega) fun _ => ⟨b, cap, f, hb, rfl⟩)
                  have hcl : ¬ cap = l := by omega
                  unfold Instr.sliceAt
                  simp only [Sem.run_bind, run_underlying hu, Result.andThen_ok]
                  unfold Instr.slice
                  simp only [Sem.run_bind, run_underlying hu, Result.andThen_ok, hbd, run_sizeV (c4 ▸ c5), Sem.run_pure, if_neg hcl, Option.map_some, add_at, ← c4]
              · omega
          · cases hq
        · cases hq
      · cases hq
    · cases hq
  · cases hq

theorem head_sound (h : SInv ρ G B n0 w S) {t : TypeId} {v : Value} {x : SV} {lo hi : Option Value} {slo shi : Option SV} (hv : RelV ρ G B n0 w S v x)
    (hlo : ∀ u t, lo = some u → slo = some t → RelV ρ G B n0 w S u t) (hhi : ∀ u t, hi = some u → shi = some t → RelV ρ G B n0 w S u t)
    (elo : slo.isSome = lo.isSome) (ehi : shi.isSome = hi.isSome) {k n q : Nat} (hq : headQ P S t x slo shi = some (k, n, q)) :
    Comes1 P B n0 ρ G w S (Instr.sliceAt t v lo hi none) { res := .hd k n q, rd := some [k] } := by
  unfold headQ at hq
  split at hq
  · rename_i hsw
    split at hq
    · rename_i el k n hu
      split at hq
      · rename_i m z lim xs hk
        split at hq
        · rename_i l bh
          split at hq
          · rename_i hc
            obtain ⟨c1, c2, c3, c4, c5⟩ := hc
            cases hq
            cases hv with
            | row _ _ A cap m1 z1 lim1 xs1 hk1 hr =>
              rw [hk] at hk1
              cases hk1
              obtain ⟨o1, o2, o3⟩ := h.obj k _ hk
              rcases hr with ⟨_, ht⟩ | ⟨_, h2, _⟩
              · cases hb : ρ k with
                | none =>
                  rw [hb] at ht
                  have := ht.2.2
                  subst this
                  simp at c3
                  omega
                | some p =>
                  obtain ⟨b, c, f⟩ := p
                  rw [hb] at ht
                  obtain ⟨rfl, rfl⟩ := ht
                  obtain ⟨o4, o5, cells, T, fr, vs, o6, o7, o8, o9, o10⟩ := o3 b cap f hb
                  have bl : bound slo 0 = some 0 := by
                    simp only [Bool.and_eq_true] at hsw
                    cases slo with
                    | none => rfl
                    | some _ => simp at hsw
                  have hbd := run_bounds (P := P) (sl := true) (len := n) (cap := cap) hlo hhi elo ehi bl bh (Nat.zero_le _) c2 (by omega)
                  refine Comes1.still h (u := .slice (some ⟨b, f, none⟩) q cap) ?_ rfl (.hd k n q _ cap m z lim xs hk c2 (by omega) fun _ => ⟨b, f, hb, rfl⟩)
                  have hcl : ¬ cap = 0 := by omega
                  unfold Instr.sliceAt
                  simp only [Sem.run_bind, run_underlying hu, Result.andThen_ok]
                  unfold Instr.slice
                  simp only [Sem.run_bind, run_underlying hu, Result.andThen_ok, hbd, run_sizeV (c4 ▸ c5), Sem.run_pure, if_neg hcl, Option.map_some, add_at, ← c4, Nat.zero_mul, Nat.add_zero, Nat.sub_zero]
              · omega
          · cases hq
        · cases hq
      · cases hq
    · cases hq
  · cases hq

theorem sliceT_sound (h : SInv ρ G B n0 w S) {nk : Nat} (hn : n0 ≤ nk) {t : TypeId} {v : Value} {x : SV} {lo hi : Option Value} {slo shi : Option SV} (hv : RelV ρ G B n0 w S v x)
    (hlo : ∀ u t, lo = some u → slo = some t → RelV ρ G B n0 w S u t) (hhi : ∀ u t, hi = some u → shi = some t → RelV ρ G B n0 w S u t)
    (elo : slo.isSome = lo.isSome) (ehi : shi.isSome = hi.isSome) {e : Eff} (he : sliceT P n0 nk S t x slo shi = some e) : Comes1 P B n0 ρ G w S (Instr.sliceAt t v lo hi none) e := by
  unfold sliceT at he
  cases hq : tailQ P n0 S t x slo shi with
  | some q =>
    rw [hq] at he
    simp only at he
    split at he
    · cases he
      exact tl_sound h hv hlo hhi elo ehi hq
    · rename_i hk0
      split at he
      · rename_i hc
        cases he
        exact tail_sound h hn hv hlo hhi elo ehi hq (by omega) (by simpa using hc)
      · cases he
  | none =>
    rw [hq] at he
    simp only at he
    cases hh : headQ P S t x slo shi with
    | some q =>
      obtain ⟨k, n, q⟩ := q
      rw [hh] at he
      cases he
      exact head_sound h hv hlo hhi elo ehi hh
    | none =>
      rw [hh] at he
      exact slice_sound h hv hlo hhi elo ehi he

/-- A place in a row that still stands. -/
theorem stands_val {v : Value} {k len i r : Nat} (hv : RelV ρ G B n0 w S v (.eptr k len i r)) (hs : stands S k len = true) :
    ∃ b c f m z lim xs, S k = some (.row m z lim xs) ∧ xs.length = len ∧ i < len ∧ ρ k = some (b, c, f) ∧ v = .pointer (some ⟨b, f + i * z + r, none⟩) := by
  cases hv with
  | eptr _ _ _ _ _ m z lim xs hk hi hle hv =>
    unfold stands at hs
    rw [hk] at hs
    simp only [decide_eq_true_eq] at hs
    obtain ⟨b, c, f, h1, h2⟩ := hv hs.symm
    exact ⟨b, c, f, m, z, lim, xs, hk, hs.symm, hi, h1, h2⟩

theorem eptr_mk {k len i r b c f z lim : Nat} {m : Bool} {xs : List PV} (hk : S k = some (.row m z lim xs)) (hl : xs.length = len) (hi : i < len) (hb : ρ k = some (b, c, f)) :
    RelV ρ G B n0 w S (.pointer (some ⟨b, f + i * z + r, none⟩)) (.eptr k len i r) :=
  .eptr k len i r _ m z lim xs hk hi (by omega) (fun _ => ⟨b, c, f, hb, rfl⟩)

theorem fieldAddr_sound (h : SInv ρ G B n0 w S) {t : TypeId} {v : Value} {x : SV} {f : Nat} (hv : RelV ρ G B n0 w S v x) {e : Eff} (he : fieldAddrV P S t x f = some e) : Comes1 P B n0 ρ G w S (Instr.fieldAt t v f) e := by
  unfold fieldAddrV at he
  split at he
  · rename_i fields hu
    split at he
    · rename_i fl hfl
      split at he
      · cases he
      · rename_i hz
        have hz : 0 < P.cellsOf fl.type := Nat.pos_of_ne_zero hz
        have hrun : ∀ b off, (Instr.fieldAt t (.pointer (some ⟨b, off, none⟩)) f).run P w = .ok (.pointer (some ⟨b, off + fl.offset, none⟩)) w := fun b off => by
          unfold Instr.fieldAt
          simp only [Sem.run_bind, run_underlying hu, Result.andThen_ok, hfl, Instr.sureAddr, Sem.run_pure, fieldPlace, run_sizeV hz]
          rw [if_neg (by omega), add_at]
          rfl
        split at he
        · rename_i k off
          simp only [Option.some.injEq] at he
          subst he
          cases hv with
          | ptr k off b c ob hk hr hb => exact Comes1.still h (hrun b off) rfl (.ptr k _ b c ob hk hr hb)
        · rename_i k len i r
          split at he
          · rename_i hs
            simp only [Option.some.injEq] at he
            subst he
            obtain ⟨b, c, f', m, z, lim, xs, h1, h2, h3, h4, rfl⟩ := stands_val hv hs
            exact Comes1.still h (hrun b _) rfl (by rw [Nat.add_assoc]; exact eptr_mk h1 h2 h3 h4)
          · cases he
        · rename_i m cs
          simp only [Option.some.injEq] at he
          subst he
          cases hv with
          | rptr _ _ b off hp hc =>
            refine Comes1.still h (hrun b off) rfl (.rptr m _ b _ (fun c hc' => hp c (List.mem_of_mem_drop hc')) fun i c hi => ?_)
            rw [List.getElem?_drop] at hi
            obtain ⟨u, h1, h2, h3⟩ := hc _ c hi
            exact ⟨u, by rw [Nat.add_assoc]; exact h1, by rw [Nat.add_assoc]; exact h2, h3⟩
        · cases he
    · cases he
  · cases he

theorem part_sound {m : Bool} {vs : Array Value} {cs : List PV} {t : TypeId} {off : Nat} {y : PV} (hr : RepV (Gm G B m) w (.agg vs) (.agg cs)) (hok : okT P t = true) (hle : off + P.cellsOf t ≤ cs.length)
    (hy : ofCells (isAggT P t) ((cs.drop off).take (P.cellsOf t)) = some y) : ∃ u, (part t vs off).run P w = .ok u w ∧ RepV (Gm G B m) w u y := by
  obtain ⟨i, d, h1, h2, h3⟩ := okT_info hok
  have hpos : 0 < P.cellsOf t := by simp only [okT, Bool.and_eq_true, decide_eq_true_eq] at hok; exact hok.1
  cases hr with
  | agg _ _ hl hc hp =>
    have key := rep_ofCells' (G := Gm G B m) (w := w) (vs := (vs.toList.drop off).take (P.cellsOf t)) hy (by simp; omega) (fun i v c hv hcc => ⟨hc (off + i) v c (by simpa using (take_drop_get hv).2) (take_drop_get hcc).2, hp c (List.mem_of_getElem? (take_drop_get hcc).2)⟩)
    refine ⟨_, ?_, key.1⟩
    unfold part
    simp only [Sem.run_bind, run_isAggV h2, Result.andThen_ok]
    cases hag : isAggT P t with
    | true =>
      simp only [if_true, Sem.run_bind, run_sizeV hpos, Result.andThen_ok, Sem.run_pure]
      congr 2
      apply Array.ext'
      simp [List.extract_eq_take_drop]
    | false =>
      simp only [Bool.false_eq_true, if_false]
      have hlt : off < vs.size := by omega
      rw [Array.getElem?_eq_getElem hlt]
      simp only [Sem.run_pure]
      congr 1
      have : ((vs.toList.drop off).take (P.cellsOf t)).headD undef = vs.toList[off]'(by simpa using hlt) := by
        rw [List.headD_eq_head?_getD, List.head?_take]
        simp only [Nat.ne_of_gt hpos, if_false]
        rw [List.head?_drop, List.getElem?_eq_getElem (by simpa using hlt)]
        rfl
      rw [this]
      simp

theorem field_sound (h : SInv ρ G B n0 w S) {t : TypeId} {v : Value} {x s : SV} {f : Nat} (hv : RelV ρ G B n0 w S v x) (he : fieldV P t x f = some s) : Comes1 P B n0 ρ G w S (Instr.field t v f) { res := s } := by
  unfold fieldV at he
  split at he
  · rename_i fields hu
    split at he
    · rename_i fl hfl
      split at he
      · rename_i m cs
        split at he
        · rename_i hle
          split at he
          · rename_i y hy
            simp only [Option.some.injEq] at he
            subst he
            cases hv with
            | pure _ _ _ hv =>
              cases hv with
              | agg vs _ hl hc hp =>
                obtain ⟨u, r1, r2⟩ := part_sound (.agg vs cs hl hc hp) hle.2 hle.1 hy
                refine Comes1.still h (u := u) ?_ rfl (.pure _ _ _ r2)
                unfold Instr.field
                simp only [Sem.run_bind, run_underlying hu, Result.andThen_ok, hfl, asAgg, Sem.run_pure, r1]
          · cases he
        · cases he
      · rename_i cs
        split at he
        · cases he
        · rename_i hag
          simp only [not_or, Bool.not_eq_true, Bool.not_eq_false] at hag
          obtain ⟨i, d, h1, h2, h3⟩ := okT_info hag.2
          cases hv with
          | agg _ vs hl hc hp =>
            have hlt : fl.offset < vs.size := by rw [hl]; exact (List.getElem?_eq_some_iff.1 he).1
            refine Comes1.still h (u := vs[fl.offset]) ?_ rfl (hc _ _ _ (Array.getElem?_eq_getElem hlt) he)
            unfold Instr.field
            simp only [Sem.run_bind, run_underlying hu, Result.andThen_ok, hfl, asAgg, Sem.run_pure, part, run_isAggV h2, hag.1, Bool.false_eq_true, if_false, Array.getElem?_eq_getElem hlt]
      · cases he
    · cases he
  · cases he

theorem index_sound (h : SInv ρ G B n0 w S) {t : TypeId} {v u : Value} {x i s : SV} (hv : RelV ρ G B n0 w S v x) (hi : RelV ρ G B n0 w S u i) (he : indexV P t x i = some s) : Comes1 P B n0 ρ G w S (Instr.index t v u) { res := s } := by
  unfold indexV at he
  split at he
  · cases he
  · rename_i n hn
    obtain ⟨k, rfl⟩ := intOf_val hi hn
    split at he
    · cases he
    · rename_i h0
      split at he
      · rename_i len el m cs hu
        split at he
        · rename_i hc
          split at he
          · rename_i y hy
            simp only [Option.some.injEq] at he
            subst he
            cases hv with
            | pure _ _ _ hv =>
              cases hv with
              | agg vs _ hl hcc hp =>
                obtain ⟨u, r1, r2⟩ := part_sound (.agg vs cs hl hcc hp) hc.2.2 hc.2.1 hy
                have hpos : 0 < P.cellsOf el := by have := hc.2.2; simp only [okT, Bool.and_eq_true, decide_eq_true_eq] at this; exact this.1
                refine Comes1.still h (u := u) ?_ rfl (.pure _ _ _ r2)
                unfold Instr.index
                simp only [Sem.run_bind, asIntOf, Sem.run_pure, Result.andThen_ok, run_underlying hu]
                rw [if_pos ⟨by omega, hc.1⟩]
                simp only [Sem.run_bind, run_sizeV hpos, Result.andThen_ok, r1]
          · cases he
        · cases he
      · rename_i m s' hu
        split at he
        · rename_i b hb
          simp only [Option.some.injEq] at he
          subst he
          cases hv with
          | pure _ _ _ hv =>
            cases hv with
            | str s =>
              refine Comes1.still h (u := .int .u8 b.toNat) ?_ rfl (.pure _ _ _ (.int ..))
              unfold Instr.index
              simp only [Sem.run_bind, asIntOf, Sem.run_pure, Result.andThen_ok, run_underlying hu]
              have : s[n.toNat]? = some b := by
                have hlt : n.toNat < s.size := by
                  have := (List.getElem?_eq_some_iff.1 hb).1
                  simpa using this
                have h2 := (List.getElem?_eq_some_iff.1 hb).2
                rw [getElem?_pos s n.toNat hlt]
                congr 1
              simp only [this, if_pos (show (0 : Int) ≤ n by omega), Sem.run_pure]
        · cases he
      · cases he

theorem rep_at {m : Bool} {v : Value} {xs : List PV} {j : Nat} {y : PV} (hr : RepV (Gm G B m) w v (.sl xs)) (hy : xs[j]? = some y) :
    ∃ b off cap, v = .slice (some ⟨b, off, none⟩) xs.length cap ∧ RelV ρ G B n0 w S (.pointer (some ⟨b, off + j * y.cells.length, none⟩)) (.rptr m y.cells) := by
  cases hr with
  | nil => simp at hy
  | sl b off len cap z _ vs hnn hz hcap hel hw hm =>
    have hzz : z = y.cells.length := (hw _ _ hy).symm
    refine ⟨b, off, cap, by rw [hnn], ?_⟩
    rw [← hzz]
    refine .rptr m _ b _ (fun c hc' => ?_) fun i c hi => ?_
    · obtain ⟨i, hi⟩ := List.getElem?_of_mem hc'
      have h2 := (hel _ _ hy).size
      have hlt2 : i < (vs j).cells.size := by rw [h2]; exact (List.getElem?_eq_some_iff.1 hi).1
      exact ((hel _ _ hy).cell i _ c (Array.getElem?_eq_getElem hlt2) hi).2
    · have h2 := (hel _ _ hy).size
      have hlt2 : i < (vs j).cells.size := by rw [h2]; exact (List.getElem?_eq_some_iff.1 hi).1
      have h3 := hm _ _ i _ hy (Array.getElem?_eq_getElem hlt2)
      exact ⟨_, h3.1, h3.2.1, ((hel _ _ hy).cell i _ c (Array.getElem?_eq_getElem hlt2) hi).1⟩

theorem indexAddr_sound (h : SInv ρ G B n0 w S) {t : TypeId} {v u : Value} {x i : SV} (hv : RelV ρ G B n0 w S v x) (hi : RelV ρ G B n0 w S u i) {e : Eff} (he : indexAddrV P n0 S t x i = some e) : Comes1 P B n0 ρ G w S (Instr.indexAt t v u) e := by
  unfold indexAddrV at he
  split at he
  · cases he
  · rename_i n hn
    obtain ⟨ik, rfl⟩ := intOf_val hi hn
    split at he
    · cases he
    · rename_i h0
      have arr : ∀ {len : Nat} {el : TypeId}, P.underlying t = some (.array len el) → n < len → 0 < P.cellsOf el → ∀ b off, (Instr.indexAt t (.pointer (some ⟨b, off, none⟩)) (.int ik n)).run P w = .ok (.pointer (some ⟨b, off + n.toNat * P.cellsOf el, none⟩)) w := by
        intro len el hu hlt hz b off
        unfold Instr.indexAt
        simp only [Sem.run_bind, asIntOf, Sem.run_pure, Result.andThen_ok, run_underlying hu, Instr.sureAddr]
        rw [if_pos ⟨by omega, hlt⟩]
        simp only [Sem.run_bind, run_sizeV hz, Result.andThen_ok, add_at, Sem.run_pure]
      have sli : ∀ {el : TypeId} {len cap : Nat}, P.underlying t = some (.slice el) → n < len → 0 < P.cellsOf el → ∀ b off, (Instr.indexAt t (.slice (some ⟨b, off, none⟩) len cap) (.int ik n)).run P w = .ok (.pointer (some ⟨b, off + n.toNat * P.cellsOf el, none⟩)) w := by
        intro el len cap hu hlt hz b off
        unfold Instr.indexAt
        simp only [Sem.run_bind, asIntOf, Sem.run_pure, Result.andThen_ok, run_underlying hu]
        rw [if_pos ⟨by omega, hlt⟩]
        simp only [Sem.run_bind, run_sizeV hz, Result.andThen_ok, add_at, Sem.run_pure]
      split at he
      · rename_i len el k off hu
        split at he
        · rename_i hc
          simp only [Option.some.injEq] at he
          subst he
          cases hv with
          | ptr k off b c ob hk hr hb => exact Comes1.still h (arr hu hc.1 hc.2 b off) rfl (.ptr k _ b c ob hk hr hb)
        · cases he
      · rename_i len el k len' j r hu
        split at he
        · rename_i hc
          simp only [Option.some.injEq] at he
          subst he
          obtain ⟨b, c, f', m, z, lim, xs, h1, h2, h3, h4, rfl⟩ := stands_val hv hc.2.2
          exact Comes1.still h (arr hu hc.1 hc.2.1 b _) rfl (by rw [Nat.add_assoc]; exact eptr_mk h1 h2 h3 h4)
        · cases he
      · rename_i len el m cs hu
        split at he
        · rename_i hc
          simp only [Option.some.injEq] at he
          subst he
          cases hv with
          | rptr _ _ b off hp hcc =>
            refine Comes1.still h (arr hu hc.1 hc.2 b off) rfl (.rptr m _ b _ (fun c hc' => hp c (List.mem_of_mem_drop hc')) fun i c hi => ?_)
            rw [List.getElem?_drop] at hi
            obtain ⟨u, h1, h2, h3⟩ := hcc _ c hi
            exact ⟨u, by rw [Nat.add_assoc]; exact h1, by rw [Nat.add_assoc]; exact h2, h3⟩
        · cases he
      · rename_i el m xs hu
        split at he
        · rename_i y hy
          split at he
          · rename_i hc
            simp only [Option.some.injEq] at he
            subst he
            cases hv with
            | pure _ _ _ hv =>
              obtain ⟨b, off, cap, rfl, hrel⟩ := rep_at (ρ := ρ) (n0 := n0) (S := S) hv hy
              have hlt : n < xs.length := by
                have := (List.getElem?_eq_some_iff.1 hy).1
                omega
              have := sli (cap := cap) hu hlt hc.2 b off
              rw [← hc.1] at this
              exact Comes1.still h this rfl hrel
          · cases he
        · cases he
      · rename_i el k len hu
        split at he
        · rename_i m z lim xs hk
          split at he
          · rename_i hlt
            split at he
            · rename_i y hy
              split at he
              · rename_i hz
                cases hv with
                | row _ _ A cap m1 z1 lim1 xs1 hk1 hrel =>
                  rw [hk] at hk1
                  cases hk1
                  split at he
                  · rename_i hlen
                    simp only [Option.some.injEq] at he
                    subst he
                    rcases hrel with ⟨e1, e2⟩ | ⟨e1, e2, e3⟩
                    · obtain ⟨o1, o2, o3⟩ := h.obj k _ hk
                      cases hρ : ρ k with
                      | none => rw [hρ] at e2; have := e2.2.2; subst this; simp at hy
                      | some p =>
                        obtain ⟨b, c, f⟩ := p
                        rw [hρ] at e2
                        obtain ⟨rfl, rfl⟩ := e2
                        have := sli (cap := cap) hu (show n < len by omega) hz.2 b f
                        rw [← hz.1] at this
                        exact Comes1.still h this rfl (eptr_mk (r := 0) hk hlen.symm hlt hρ)
                    · omega
                  · rename_i hlen
                    split at he
                    · rename_i hyl
                      simp only [Option.some.injEq] at he
                      subst he
                      rcases hrel with ⟨e1, e2⟩ | ⟨e1, e2, e3⟩
                      · exact absurd e1 hlen
                      · have hy' : (xs.take len)[n.toNat]? = some y := by rw [List.getElem?_take, if_pos hlt]; exact hy
                        obtain ⟨b, off, cap', heq, hrel⟩ := rep_at (ρ := ρ) (n0 := n0) (S := S) (e3.weaken (Gm.le (m' := false) (fun h => by cases h))) hy'
                        have hll : (xs.take len).length = len := by simp; omega
                        rw [hll] at heq
                        cases heq
                        have := sli (len := len) (cap := cap) hu (by omega) hz.2 b off
                        rw [← hyl] at this
                        exact Comes1.still h this rfl hrel
                    · cases he
              · cases he
            · cases he
          · cases he
        · cases he
      · rename_i el k off z len hu
        split at he
        · rename_i hc
          simp only [Option.some.injEq] at he
          subst he
          cases hv with
          | view _ _ _ _ b c cap ob hk hr hb hcap =>
            have := sli (cap := cap) hu hc.1 hc.2.2 b off
            rw [← hc.2.1] at this
            exact Comes1.still h this rfl (.ptr k _ b c ob hk hr hb)
        · cases he
      · rename_i el k len q hu
        split at he
        · rename_i m z lim xs hk
          split at he
          · rename_i hc
            obtain ⟨c1, c2, c3, c4⟩ := hc
            cases he
            cases hv with
            | hd _ _ _ A cap m1 z1 lim1 xs1 hk1 hq hle hh =>
              rw [hk] at hk1
              cases hk1
              obtain ⟨b, f, hb, rfl⟩ := hh c2.symm
              have := sli (len := q) (cap := cap) hu (show n < q by omega) c4 b f
              rw [← c3] at this
              exact Comes1.still h this rfl (eptr_mk (r := 0) hk c2.symm (by omega) hb)
          · cases he
        · cases he
      · cases he

end
end Go.Proofs.YticdhmcbooabaaaDoor.V
