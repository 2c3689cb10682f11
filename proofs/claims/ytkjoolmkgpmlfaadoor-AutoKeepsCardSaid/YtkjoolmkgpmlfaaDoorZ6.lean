/- V6: parts, places, slices of slices, conversions, lengths, iterators. No claim. -/
import Derived.Test.YtkjoolmkgpmlfaaDoorZ5
set_option linter.unusedVariables false
set_option linter.unusedSimpArgs false
namespace Go.Proofs.YtkjoolmkgpmlfaaDoorZ.V
open Go

section
variable {B n0 : Nat} {ρ : Emb} {G : Cs} {w : World} {S : Look} {P : Program}

theorem intOf_val {v : Value} {s : SV} (hv : RelV ρ G B n0 w S v s) {n : Int} (h : intOf s = some n) : ∃ k, v = .int k n := by
  unfold intOf at h
  split at h
  · rename_i m k n'
    simp only [Option.some.injEq] at h
    subst h
    cases hv with
    | pure _ _ _ hv => cases hv; exact ⟨k, rfl⟩
  · cases h

theorem run_bound {v : Option Value} {s : Option SV} {d l y : Nat} {code : BoundsCode} (hv : ∀ u t, v = some u → s = some t → RelV ρ G B n0 w S u t) (hs : s.isSome = v.isSome) (h : bound s d = some l) (hy : l ≤ y) :
    (match v with | some u => Instr.sliceBound u y code | none => pure d : Sem Nat).run P w = .ok l w := by
  cases v with
  | none =>
    cases s with
    | none => simp only [bound, Option.some.injEq] at h; subst h; rfl
    | some t => simp at hs
  | some u =>
    cases s with
    | none => simp at hs
    | some t =>
      simp only [bound] at h
      split at h
      · rename_i n hn
        split at h
        · rename_i h0
          simp only [Option.some.injEq] at h
          subst h
          obtain ⟨k, rfl⟩ := intOf_val (hv u t rfl rfl) hn
          simp only [Instr.sliceBound, asIntOf, Sem.run_bind, Sem.run_pure, Result.andThen_ok]
          rw [if_pos ⟨h0, by omega⟩]
          rfl
        · cases h
      · cases h

theorem run_bounds {sl : Bool} {len cap : Nat} {lo hi : Option Value} {slo shi : Option SV} {l h : Nat} (hlo : ∀ u t, lo = some u → slo = some t → RelV ρ G B n0 w S u t) (hhi : ∀ u t, hi = some u → shi = some t → RelV ρ G B n0 w S u t)
    (elo : slo.isSome = lo.isSome) (ehi : shi.isSome = hi.isSome) (bl : bound slo 0 = some l) (bh : bound shi len = some h) (h1 : l ≤ h) (h2 : h ≤ len) (h3 : len ≤ cap) :
    (Instr.sliceBounds sl len cap lo hi none).run P w = .ok (l, h, cap) w := by
  have e1 := run_bound (P := P) (y := cap) (code := if sl then .sliceAcap else .sliceAlen) hhi ehi bh (by omega)
  have e2 := run_bound (P := P) (y := h) (code := .sliceB) hlo elo bl h1
  unfold Instr.sliceBounds
  simp only [Sem.run_bind, Sem.run_pure, Result.andThen_ok]
  cases hi with
  | none =>
    simp only [Sem.run_pure, Result.andThen_ok] at e1 ⊢
    cases e1
    cases lo with
    | none => simp only [Sem.run_pure, Result.andThen_ok] at e2 ⊢; cases e2; rfl
    | some v => simp only [Option.isSome_none, Bool.false_eq_true, if_false, Sem.run_bind, Sem.run_pure, Result.andThen_ok] at e2 ⊢; rw [e2]; rfl
  | some u =>
    simp only [Sem.run_bind] at e1 ⊢
    rw [e1]
    simp only [Result.andThen_ok, Sem.run_bind]
    cases lo with
    | none => simp only [Sem.run_pure, Result.andThen_ok] at e2 ⊢; cases e2; rfl
    | some v => simp only [Option.isSome_none, Bool.false_eq_true, if_false, Sem.run_bind, Sem.run_pure, Result.andThen_ok] at e2 ⊢; rw [e2]; rfl

/-- A part of a slice. -/
theorem rep_part {G : Cs} {A : Option Addr} {n cap l h z : Nat} {xs : List PV} (hr : RepV G w (.slice A n cap) (.sl xs)) (hw : allW z xs = true) (hz : 0 < z) (h1 : l ≤ h) (h2 : h ≤ xs.length) (cap' : Nat) (A' : Option Addr)
    (hcap' : h - l ≤ cap') (hA : 0 < h - l → A' = A.map (·.add (l * z))) : RepV G w (.slice A' (h - l) cap') (.sl ((xs.drop l).take (h - l))) := by
  by_cases h0 : h - l = 0
  · rw [h0]; exact .nil _ _
  · cases hr with
    | nil => simp at h2; omega
    | sl b off _ _ z' _ vs hn hz' hcap he hw' hm =>
      have hzz : z' = z := by
        have e : xs[0]? = some (xs[0]'(by omega)) := List.getElem?_eq_getElem (by omega)
        rw [← hw' 0 _ e, allW_get hw 0 _ e]
      subst hzz
      rw [hA (by omega)]
      simp only [Option.map_some, add_at]
      have hx : ∀ (j : Nat) x, ((xs.drop l).take (h - l))[j]? = some x → j < h - l ∧ xs[l + j]? = some x := fun j x hj => take_drop_get hj
      refine .sl b (off + l * z') (h - l) cap' z' _ (fun j => vs (l + j)) (by simp; omega) hz hcap' (fun j x hj => he _ _ (hx j x hj).2) (fun j x hj => hw' _ _ (hx j x hj).2) fun j x i v hj hv => ?_
      have := hm (l + j) x i v (hx j x hj).2 hv
      rw [show off + l * z' + j * z' + i = off + (l + j) * z' + i by rw [Nat.add_mul]; omega]
      exact this

theorem slice_sound (h : SInv ρ G B n0 w S) {t : TypeId} {v : Value} {x : SV} {lo hi : Option Value} {slo shi : Option SV} (hv : RelV ρ G B n0 w S v x)
    (hlo : ∀ u t, lo = some u → slo = some t → RelV ρ G B n0 w S u t) (hhi : ∀ u t, hi = some u → shi = some t → RelV ρ G B n0 w S u t)
    (elo : slo.isSome = lo.isSome) (ehi : shi.isSome = hi.isSome) {e : Eff} (he : sliceV P n0 S t x slo shi = some e) : Comes1 P B n0 ρ G w S (Instr.sliceAt t v lo hi none) e := by
  unfold sliceV at he
  split at he
  · rename_i m s hu
    cases hv with
    | pure _ _ _ hv =>
      cases hv with
      | str s =>
        split at he
        · rename_i l h' bl bh
          split at he
          · rename_i hc
            simp only [Option.some.injEq] at he
            subst he
            have hb := run_bounds (P := P) (sl := false) (len := s.size) (cap := s.size) hlo hhi elo ehi bl (by simpa using bh) hc.1 (by simpa using hc.2) (Nat.le_refl _)
            refine Comes1.still h (u := .string (s.extract l h')) ?_ rfl ?_
            · unfold Instr.sliceAt
              simp only [Sem.run_bind, run_underlying hu, Result.andThen_ok]
              unfold Instr.slice
              simp only [Sem.run_bind, run_underlying hu, Result.andThen_ok, Option.isSome_none, Bool.false_eq_true, if_false, hb, Sem.run_pure]
            · have : (s.extract l h').data.toList = (s.data.toList.drop l).take (h' - l) := by
                rw [ByteArray.data_extract, Array.toList_extract, List.extract_eq_take_drop]
              rw [← this]
              exact .pure _ _ _ (.str _)
          · cases he
        · cases he
  · rename_i el m xs hu
    cases hv with
    | pure _ _ _ hv =>
      split at he
      · rename_i l h' bl bh
        split at he
        · rename_i hc
          simp only [Option.some.injEq] at he
          subst he
          obtain ⟨A, cap, rfl, hcap⟩ : ∃ A cap, v = .slice A xs.length cap ∧ xs.length ≤ cap := by
            cases hv with
            | nil A cap => exact ⟨A, cap, rfl, Nat.zero_le _⟩
            | sl b off n cap z _ vs hn hz hcap => exact ⟨_, cap, by rw [hn], by omega⟩
          have hb := run_bounds (P := P) (sl := true) (len := xs.length) (cap := cap) hlo hhi elo ehi bl bh hc.1 hc.2.1 hcap
          refine Comes1.still h (u := .slice (if cap = l then A else A.map (·.add (l * P.cellsOf el))) (h' - l) (cap - l)) ?_ rfl (.pure _ _ _ (rep_part hv hc.2.2.2 hc.2.2.1 hc.1 hc.2.1 _ _ (by omega) (fun hp => by rw [if_neg (by omega)])))
          unfold Instr.sliceAt
          simp only [Sem.run_bind, run_underlying hu, Result.andThen_ok]
          unfold Instr.slice
          simp only [Sem.run_bind, run_underlying hu, Result.andThen_ok, hb, run_sizeV hc.2.2.1, Sem.run_pure]
        · cases he
      · cases he
  · rename_i el k n hu
    split at he
    · rename_i m xs δ hf
      split at he
      · rename_i l h' bl bh
        split at he
        · rename_i hc
          simp only [Option.some.injEq] at he
          subst he
          obtain ⟨G', a1, a2, a3⟩ := freeze_sound h hv hf
          obtain ⟨A, cap, rfl, hcap⟩ : ∃ A cap, v = .slice A xs.length cap ∧ xs.length ≤ cap := by
            cases a3 with
            | nil A cap => exact ⟨A, cap, rfl, Nat.zero_le _⟩
            | sl b off n cap z _ vs hn hz hcap => exact ⟨_, cap, by rw [hn], by omega⟩
          have hb := run_bounds (P := P) (sl := true) (len := xs.length) (cap := cap) hlo hhi elo ehi bl bh hc.1 hc.2.1 hcap
          refine ⟨.slice (if cap = l then A else A.map (·.add (l * P.cellsOf el))) (h' - l) (cap - l), ρ, G', w, ?_, a1, a2, .pure _ _ _ (rep_part a3 hc.2.2.2 hc.2.2.1 hc.1 hc.2.1 _ _ (by omega) (fun hp => by rw [if_neg (by omega)]))⟩
          unfold Instr.sliceAt
          simp only [Sem.run_bind, run_underlying hu, Result.andThen_ok]
          unfold Instr.slice
          simp only [Sem.run_bind, run_underlying hu, Result.andThen_ok, hb, run_sizeV hc.2.2.1, Sem.run_pure]
        · cases he
      · cases he
    · cases he
  · rename_i n el k off hu
    split at he
    · rename_i l h' bl bh
      split at he
      · rename_i hc
        simp only [Option.some.injEq] at he
        subst he
        cases hv with
        | ptr _ _ b c ob hk hr hb' =>
          have hb := run_bounds (P := P) (sl := false) (len := n) (cap := n) hlo hhi elo ehi bl bh hc.1 hc.2.1 (Nat.le_refl _)
          have hnl : ¬ n = l := by omega
          refine Comes1.still h (u := .slice (some ⟨b, off + l * P.cellsOf el, none⟩) (h' - l) (n - l)) ?_ rfl (.view k _ _ _ b c _ ob hk hr hb' (by omega))
          unfold Instr.sliceAt
          simp only [Sem.run_bind, run_underlying hu, Result.andThen_ok, Instr.sureAddr, Sem.run_pure, hb, run_sizeV hc.2.2.1, hnl, if_false, add_at]
      · cases he
    · cases he
  · cases he

/-- A place in a row that still stands. -/
theorem stands_val {v : Value} {k len i r : Nat} (hv : RelV ρ G B n0 w S v (.eptr k len i r)) (hs : stands S k len = true) :
    ∃ b c m z lim xs, S k = some (.row m z lim xs) ∧ xs.length = len ∧ i < len ∧ ρ k = some (b, c) ∧ v = .pointer (some ⟨b, i * z + r, none⟩) := by
  cases hv with
  | eptr _ _ _ _ _ m z lim xs hk hi hle hv =>
    unfold stands at hs
    rw [hk] at hs
    simp only [decide_eq_true_eq] at hs
    obtain ⟨b, c, h1, h2⟩ := hv hs.symm
    exact ⟨b, c, m, z, lim, xs, hk, hs.symm, hi, h1, h2⟩

theorem eptr_mk {k len i r b c z lim : Nat} {m : Bool} {xs : List PV} (hk : S k = some (.row m z lim xs)) (hl : xs.length = len) (hi : i < len) (hb : ρ k = some (b, c)) :
    RelV ρ G B n0 w S (.pointer (some ⟨b, i * z + r, none⟩)) (.eptr k len i r) :=
  .eptr k len i r _ m z lim xs hk hi (by omega) (fun _ => ⟨b, c, hb, rfl⟩)

theorem fieldAddr_sound (h : SInv ρ G B n0 w S) {t : TypeId} {v : Value} {x : SV} {f : Nat} (hv : RelV ρ G B n0 w S v x) {e : Eff} (he : fieldAddrV P S t x f = some e) : Comes1 P B n0 ρ G w S (Instr.fieldAt t v f) e := by
  unfold fieldAddrV at he
  split at he
  · rename_i fields hu
    split at he
    · rename_i fl hfl
      split at he
      · cases he
      · rename_i hz
        have hz : 0 < P.cellsOf fl.type := Nat.pos_of_ne_zero hz
        have hrun : ∀ b off, (Instr.fieldAt t (.pointer (some ⟨b, off, none⟩)) f).run P w = .ok (.pointer (some ⟨b, off + fl.offset, none⟩)) w := fun b off => by
          unfold Instr.fieldAt
          simp only [Sem.run_bind, run_underlying hu, Result.andThen_ok, hfl, Instr.sureAddr, Sem.run_pure, fieldPlace, run_sizeV hz]
          rw [if_neg (by omega), add_at]
          rfl
        split at he
        · rename_i k off
          simp only [Option.some.injEq] at he
          subst he
          cases hv with
          | ptr k off b c ob hk hr hb => exact Comes1.still h (hrun b off) rfl (.ptr k _ b c ob hk hr hb)
        · rename_i k len i r
          split at he
          · rename_i hs
            simp only [Option.some.injEq] at he
            subst he
            obtain ⟨b, c, m, z, lim, xs, h1, h2, h3, h4, rfl⟩ := stands_val hv hs
            exact Comes1.still h (hrun b _) rfl (by rw [Nat.add_assoc]; exact eptr_mk h1 h2 h3 h4)
          · cases he
        · rename_i m cs
          simp only [Option.some.injEq] at he
          subst he
          cases hv with
          | rptr _ _ b off hp hc =>
            refine Comes1.still h (hrun b off) rfl (.rptr m _ b _ (fun c hc' => hp c (List.mem_of_mem_drop hc')) fun i c hi => ?_)
            rw [List.getElem?_drop] at hi
            obtain ⟨u, h1, h2, h3⟩ := hc _ c hi
            exact ⟨u, by rw [Nat.add_assoc]; exact h1, by rw [Nat.add_assoc]; exact h2, h3⟩
        · cases he
    · cases he
  · cases he

theorem part_sound {m : Bool} {vs : Array Value} {cs : List PV} {t : TypeId} {off : Nat} {y : PV} (hr : RepV (Gm G B m) w (.agg vs) (.agg cs)) (hok : okT P t = true) (hle : off + P.cellsOf t ≤ cs.length)
    (hy : ofCells (isAggT P t) ((cs.drop off).take (P.cellsOf t)) = some y) : ∃ u, (part t vs off).run P w = .ok u w ∧ RepV (Gm G B m) w u y := by
  obtain ⟨i, d, h1, h2, h3⟩ := okT_info hok
  have hpos : 0 < P.cellsOf t := by simp only [okT, Bool.and_eq_true, decide_eq_true_eq] at hok; exact hok.1
  cases hr with
  | agg _ _ hl hc hp =>
    have key := rep_ofCells' (G := Gm G B m) (w := w) (vs := (vs.toList.drop off).take (P.cellsOf t)) hy (by simp; omega) (fun i v c hv hcc => ⟨hc (off + i) v c (by simpa using (take_drop_get hv).2) (take_drop_get hcc).2, hp c (List.mem_of_getElem? (take_drop_get hcc).2)⟩)
    refine ⟨_, ?_, key.1⟩
    unfold part
    simp only [Sem.run_bind, run_isAggV h2, Result.andThen_ok]
    cases hag : isAggT P t with
    | true =>
      simp only [if_true, Sem.run_bind, run_sizeV hpos, Result.andThen_ok, Sem.run_pure]
      congr 2
      apply Array.ext'
      simp [List.extract_eq_take_drop]
    | false =>
      simp only [Bool.false_eq_true, if_false]
      have hlt : off < vs.size := by omega
      rw [Array.getElem?_eq_getElem hlt]
      simp only [Sem.run_pure]
      congr 1
      have : ((vs.toList.drop off).take (P.cellsOf t)).headD undef = vs.toList[off]'(by simpa using hlt) := by
        rw [List.headD_eq_head?_getD, List.head?_take]
        simp only [Nat.ne_of_gt hpos, if_false]
        rw [List.head?_drop, List.getElem?_eq_getElem (by simpa using hlt)]
        rfl
      rw [this]
      simp

theorem field_sound (h : SInv ρ G B n0 w S) {t : TypeId} {v : Value} {x s : SV} {f : Nat} (hv : RelV ρ G B n0 w S v x) (he : fieldV P t x f = some s) : Comes1 P B n0 ρ G w S (Instr.field t v f) { res := s } := by
  unfold fieldV at he
  split at he
  · rename_i fields hu
    split at he
    · rename_i fl hfl
      split at he
      · rename_i m cs
        split at he
        · rename_i hle
          split at he
          · rename_i y hy
            simp only [Option.some.injEq] at he
            subst he
            cases hv with
            | pure _ _ _ hv =>
              cases hv with
              | agg vs _ hl hc hp =>
                obtain ⟨u, r1, r2⟩ := part_sound (.agg vs cs hl hc hp) hle.2 hle.1 hy
                refine Comes1.still h (u := u) ?_ rfl (.pure _ _ _ r2)
                unfold Instr.field
                simp only [Sem.run_bind, run_underlying hu, Result.andThen_ok, hfl, asAgg, Sem.run_pure, r1]
          · cases he
        · cases he
      · rename_i cs
        split at he
        · cases he
        · rename_i hag
          simp only [not_or, Bool.not_eq_true, Bool.not_eq_false] at hag
          obtain ⟨i, d, h1, h2, h3⟩ := okT_info hag.2
          cases hv with
          | agg _ vs hl hc hp =>
            have hlt : fl.offset < vs.size := by rw [hl]; exact (List.getElem?_eq_some_iff.1 he).1
            refine Comes1.still h (u := vs[fl.offset]) ?_ rfl (hc _ _ _ (Array.getElem?_eq_getElem hlt) he)
            unfold Instr.field
            simp only [Sem.run_bind, run_underlying hu, Result.andThen_ok, hfl, asAgg, Sem.run_pure, part, run_isAggV h2, hag.1, Bool.false_eq_true, if_false, Array.getElem?_eq_getElem hlt]
      · cases he
    · cases he
  · cases he

theorem index_sound (h : SInv ρ G B n0 w S) {t : TypeId} {v u : Value} {x i s : SV} (hv : RelV ρ G B n0 w S v x) (hi : RelV ρ G B n0 w S u i) (he : indexV P t x i = some s) : Comes1 P B n0 ρ G w S (Instr.index t v u) { res := s } := by
  unfold indexV at he
  split at he
  · cases he
  · rename_i n hn
    obtain ⟨k, rfl⟩ := intOf_val hi hn
    split at he
    · cases he
    · rename_i h0
      split at he
      · rename_i len el m cs hu
        split at he
        · rename_i hc
          split at he
          · rename_i y hy
            simp only [Option.some.injEq] at he
            subst he
            cases hv with
            | pure _ _ _ hv =>
              cases hv with
              | agg vs _ hl hcc hp =>
                obtain ⟨u, r1, r2⟩ := part_sound (.agg vs cs hl hcc hp) hc.2.2 hc.2.1 hy
                have hpos : 0 < P.cellsOf el := by have := hc.2.2; simp only [okT, Bool.and_eq_true, decide_eq_true_eq] at this; exact this.1
                refine Comes1.still h (u := u) ?_ rfl (.pure _ _ _ r2)
                unfold Instr.index
                simp only [Sem.run_bind, asIntOf, Sem.run_pure, Result.andThen_ok, run_underlying hu]
                rw [if_pos ⟨by omega, hc.1⟩]
                simp only [Sem.run_bind, run_sizeV hpos, Result.andThen_ok, r1]
          · cases he
        · cases he
      · rename_i m s' hu
        split at he
        · rename_i b hb
          simp only [Option.some.injEq] at he
          subst he
          cases hv with
          | pure _ _ _ hv =>
            cases hv with
            | str s =>
              refine Comes1.still h (u := .int .u8 b.toNat) ?_ rfl (.pure _ _ _ (.int ..))
              unfold Instr.index
              simp only [Sem.run_bind, asIntOf, Sem.run_pure, Result.andThen_ok, run_underlying hu]
              have : s[n.toNat]? = some b := by
                have hlt : n.toNat < s.size := by
                  have := (List.getElem?_eq_some_iff.1 hb).1
                  simpa using this
                have h2 := (List.getElem?_eq_some_iff.1 hb).2
                rw [getElem?_pos s n.toNat hlt]
                congr 1
              simp only [this, if_pos (show (0 : Int) ≤ n by omega), Sem.run_pure]
        · cases he
      · cases he

theorem rep_at {m : Bool} {v : Value} {xs : List PV} {j : Nat} {y : PV} (hr : RepV (Gm G B m) w v (.sl xs)) (hy : xs[j]? = some y) :
    ∃ b off cap, v = .slice (some ⟨b, off, none⟩) xs.length cap ∧ RelV ρ G B n0 w S (.pointer (some ⟨b, off + j * y.cells.length, none⟩)) (.rptr m y.cells) := by
  cases hr with
  | nil => simp at hy
  | sl b off len cap z _ vs hnn hz hcap hel hw hm =>
    have hzz : z = y.cells.length := (hw _ _ hy).symm
    refine ⟨b, off, cap, by rw [hnn], ?_⟩
    rw [← hzz]
    refine .rptr m _ b _ (fun c hc' => ?_) fun i c hi => ?_
    · obtain ⟨i, hi⟩ := List.getElem?_of_mem hc'
      have h2 := (hel _ _ hy).size
      have hlt2 : i < (vs j).cells.size := by rw [h2]; exact (List.getElem?_eq_some_iff.1 hi).1
      exact ((hel _ _ hy).cell i _ c (Array.getElem?_eq_getElem hlt2) hi).2
    · have h2 := (hel _ _ hy).size
      have hlt2 : i < (vs j).cells.size := by rw [h2]; exact (List.getElem?_eq_some_iff.1 hi).1
      have h3 := hm _ _ i _ hy (Array.getElem?_eq_getElem hlt2)
      exact ⟨_, h3.1, h3.2.1, ((hel _ _ hy).cell i _ c (Array.getElem?_eq_getElem hlt2) hi).1⟩

theorem indexAddr_sound (h : SInv ρ G B n0 w S) {t : TypeId} {v u : Value} {x i : SV} (hv : RelV ρ G B n0 w S v x) (hi : RelV ρ G B n0 w S u i) {e : Eff} (he : indexAddrV P n0 S t x i = some e) : Comes1 P B n0 ρ G w S (Instr.indexAt t v u) e := by
  unfold indexAddrV at he
  split at he
  · cases he
  · rename_i n hn
    obtain ⟨ik, rfl⟩ := intOf_val hi hn
    split at he
    · cases he
    · rename_i h0
      have arr : ∀ {len : Nat} {el : TypeId}, P.underlying t = some (.array len el) → n < len → 0 < P.cellsOf el → ∀ b off, (Instr.indexAt t (.pointer (some ⟨b, off, none⟩)) (.int ik n)).run P w = .ok (.pointer (some ⟨b, off + n.toNat * P.cellsOf el, none⟩)) w := by
        intro len el hu hlt hz b off
        unfold Instr.indexAt
        simp only [Sem.run_bind, asIntOf, Sem.run_pure, Result.andThen_ok, run_underlying hu, Instr.sureAddr]
        rw [if_pos ⟨by omega, hlt⟩]
        simp only [Sem.run_bind, run_sizeV hz, Result.andThen_ok, add_at, Sem.run_pure]
      have sli : ∀ {el : TypeId} {len cap : Nat}, P.underlying t = some (.slice el) → n < len → 0 < P.cellsOf el → ∀ b off, (Instr.indexAt t (.slice (some ⟨b, off, none⟩) len cap) (.int ik n)).run P w = .ok (.pointer (some ⟨b, off + n.toNat * P.cellsOf el, none⟩)) w := by
        intro el len cap hu hlt hz b off
        unfold Instr.indexAt
        simp only [Sem.run_bind, asIntOf, Sem.run_pure, Result.andThen_ok, run_underlying hu]
        rw [if_pos ⟨by omega, hlt⟩]
        simp only [Sem.run_bind, run_sizeV hz, Result.andThen_ok, add_at, Sem.run_pure]
      split at he
      · rename_i len el k off hu
        split at he
        · rename_i hc
          simp only [Option.some.injEq] at he
          subst he
          cases hv with
          | ptr k off b c ob hk hr hb => exact Comes1.still h (arr hu hc.1 hc.2 b off) rfl (.ptr k _ b c ob hk hr hb)
        · cases he
      · rename_i len el k len' j r hu
        split at he
        · rename_i hc
          simp only [Option.some.injEq] at he
          subst he
          obtain ⟨b, c, m, z, lim, xs, h1, h2, h3, h4, rfl⟩ := stands_val hv hc.2.2
          exact Comes1.still h (arr hu hc.1 hc.2.1 b _) rfl (by rw [Nat.add_assoc]; exact eptr_mk h1 h2 h3 h4)
        · cases he
      · rename_i len el m cs hu
        split at he
        · rename_i hc
          simp only [Option.some.injEq] at he
          subst he
          cases hv with
          | rptr _ _ b off hp hcc =>
            refine Comes1.still h (arr hu hc.1 hc.2 b off) rfl (.rptr m _ b _ (fun c hc' => hp c (List.mem_of_mem_drop hc')) fun i c hi => ?_)
            rw [List.getElem?_drop] at hi
            obtain ⟨u, h1, h2, h3⟩ := hcc _ c hi
            exact ⟨u, by rw [Nat.add_assoc]; exact h1, by rw [Nat.add_assoc]; exact h2, h3⟩
        · cases he
      · rename_i el m xs hu
        split at he
        · rename_i y hy
          split at he
          · rename_i hc
            simp only [Option.some.injEq] at he
            subst he
            cases hv with
            | pure _ _ _ hv =>
              obtain ⟨b, off, cap, rfl, hrel⟩ := rep_at (ρ := ρ) (n0 := n0) (S := S) hv hy
              have hlt : n < xs.length := by
                have := (List.getElem?_eq_some_iff.1 hy).1
                omega
              have := sli (cap := cap) hu hlt hc.2 b off
              rw [← hc.1] at this
              exact Comes1.still h this rfl hrel
          · cases he
        · cases he
      · rename_i el k len hu
        split at he
        · rename_i m z lim xs hk
          split at he
          · rename_i hlt
            split at he
            · rename_i y hy
              split at he
              · rename_i hz
                cases hv with
                | row _ _ A cap m1 z1 lim1 xs1 hk1 hrel =>
                  rw [hk] at hk1
                  cases hk1
                  split at he
                  · rename_i hlen
                    simp only [Option.some.injEq] at he
                    subst he
                    rcases hrel with ⟨e1, e2⟩ | ⟨e1, e2, e3⟩
                    · obtain ⟨o1, o2, o3⟩ := h.obj k _ hk
                      cases hρ : ρ k with
                      | none => have := o2 hρ; subst this; simp at hy
                      | some p =>
                        obtain ⟨b, c⟩ := p
                        rw [hρ] at e2
                        obtain ⟨rfl, rfl⟩ := e2
                        have := sli (cap := cap) hu (show n < len by omega) hz.2 b 0
                        rw [Nat.zero_add, ← hz.1] at this
                        exact Comes1.still h this rfl (eptr_mk (r := 0) hk hlen.symm hlt hρ)
                    · omega
                  · rename_i hlen
                    split at he
                    · rename_i hyl
                      simp only [Option.some.injEq] at he
                      subst he
                      rcases hrel with ⟨e1, e2⟩ | ⟨e1, e2, e3⟩
                      · exact absurd e1 hlen
                      · have hy' : (xs.take len)[n.toNat]? = some y := by rw [List.getElem?_take, if_pos hlt]; exact hy
                        obtain ⟨b, off, cap', heq, hrel⟩ := rep_at (ρ := ρ) (n0 := n0) (S := S) (e3.weaken (Gm.le (m' := false) (fun h => by cases h))) hy'
                        have hll : (xs.take len).length = len := by simp; omega
                        rw [hll] at heq
                        cases heq
                        have := sli (len := len) (cap := cap) hu (by omega) hz.2 b off
                        rw [← hyl] at this
                        exact Comes1.still h this rfl hrel
                    · cases he
              · cases he
            · cases he
          · cases he
        · cases he
      · rename_i el k off z len hu
        split at he
        · rename_i hc
          simp only [Option.some.injEq] at he
          subst he
          cases hv with
          | view _ _ _ _ b c cap ob hk hr hb hcap =>
            have := sli (cap := cap) hu hc.1 hc.2.2 b off
            rw [← hc.2.1] at this
            exact Comes1.still h this rfl (.ptr k _ b c ob hk hr hb)
        · cases he
      · cases he

end
end Go.Proofs.YtkjoolmkgpmlfaaDoorZ.V
