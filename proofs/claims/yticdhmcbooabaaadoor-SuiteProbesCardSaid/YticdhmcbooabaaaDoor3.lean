/- V3: what is handed on as pure data; loads and stores. No claim. -/
import Derived.Test.YticdhmcbooabaaaDoor2
import Derived.Laws.Cells
import Derived.ChangeKeysEq
import Derived.Laws.CopyRow
import Derived.Laws.IdiomCopy
set_option linter.unusedVariables false
set_option linter.unusedSimpArgs false
namespace Go.Proofs.YticdhmcbooabaaaDoor.V
open Go

theorem over_nil (S : Look) : over [] S = S := by funext k; simp [over, get]
theorem over_one (k : Nat) (ob : Ob) (S : Look) (j : Nat) : over [(k, ob)] S j = if k = j then some ob else S j := by
  by_cases h : k = j <;> simp [over, get, h]
theorem get_append {α : Type} (a b : List (Nat × α)) (k : Nat) : get (a ++ b) k = match get a k with | some v => some v | none => get b k := by
  induction a with
  | nil => simp [get]
  | cons p r ih =>
    obtain ⟨j, v⟩ := p
    by_cases h : j = k <;> simp [get, h, ih]
theorem over_append (a b : Store) (S : Look) : over (a ++ b) S = over a (over b S) := by
  funext k
  simp only [over, get_append]
  cases get a k <;> simp
theorem get_over (δ S : Store) : get (δ ++ S) = over δ (get S) := by
  funext k
  rw [get_append]
  unfold over
  cases get δ k <;> rfl
theorem over_cons (k : Nat) (ob : Ob) (δ : Store) (S : Look) (j : Nat) : over ((k, ob) :: δ) S j = if k = j then some ob else over δ S j := by
  by_cases h : k = j <;> simp [over, get, h]

theorem RepV.nagg {G : Cs} {w : World} {v : Value} {x : PV} (h : RepV G w v x) (hp : Plain v) : x.isAgg = false := by
  cases h <;> simp_all [PV.isAgg, Plain]
theorem nagg_cells {x : PV} (h : x.isAgg = false) : x.cells = [x] := by cases x <;> simp_all [PV.isAgg, PV.cells]

abbrev All : Nat → Prop := fun _ => True

section
variable {B n0 : Nat} {ρ : Emb} {G : Cs} {w : World} {S : Look}

theorem Ext.trans {K : Nat → Prop} {ρ1 ρ2 : Emb} {G1 G2 : Cs} {w1 w2 : World} {S1 S2 : Look} (h : Ext K B n0 ρ G w S ρ1 G1 w1 S1) (h' : Ext K B n0 ρ1 G1 w1 S1 ρ2 G2 w2 S2) :
    Ext K B n0 ρ G w S ρ2 G2 w2 S2 where
  g b o hb := ⟨(h'.g b o (h.g b o hb).1).1, fun v hv => (h'.g b o (h.g b o hb).1).2 v ((h.g b o hb).2 v hv)⟩
  key k ob hK hk := by
    obtain ⟨ob1, h1, e1⟩ := h.key k ob hK hk
    obtain ⟨ob2, h2, e2⟩ := h'.key k ob1 hK h1
    refine ⟨ob2, h2, ?_⟩
    cases ob with
    | row m z lim xs =>
      cases ob1 with
      | row m1 z1 lim1 xs1 =>
        cases ob2 with
        | row m2 z2 lim2 xs2 =>
          obtain ⟨a1, a2, a3, a4, a5⟩ := e1
          obtain ⟨b1, b2, b3, b4, b5⟩ := e2
          have b6 : ∀ n, n ≤ lim1 → xs2.take n = xs1.take n := fun n hn => by
            have := congrArg (List.take n) b4
            simpa only [List.take_take, Nat.min_eq_left hn] using this
          refine ⟨fun hm => a1 (b1 hm), fun hx => ?_, Nat.le_trans a3 b3, (b6 lim a3).trans a4, ?_⟩
          · rw [b2 (by
              rintro rfl
              rcases a5 with ⟨e, _⟩ | ⟨e, _⟩
              · exact hx (List.eq_nil_of_length_eq_zero e.symm)
              · simp at e), a2 hx]
          · rcases a5 with ⟨c1, c2⟩ | ⟨c1, c3, c4⟩
            · rcases b5 with ⟨d1, d2⟩ | ⟨d1, d3, d4⟩
              · exact .inl ⟨d1.trans c1, d2.trans c2⟩
              · refine .inr ⟨c1 ▸ d1, c1 ▸ d3, fun A cap ht => ?_⟩
                have := d4 A cap (c2 ▸ ht.len c1)
                rwa [c1] at this
            · refine .inr ⟨by rcases b5 with ⟨d1, _⟩ | ⟨d1, _⟩ <;> omega, Nat.le_trans c3 b3, fun A cap ht => ?_⟩
              rw [b6 _ c3]
              exact (c4 A cap ht).mono fun b o hb => ⟨⟨(h'.g b o hb.1).1, fun hm => hb.2 (by simp only [Bool.and_eq_true] at hm ⊢; exact ⟨b1 hm.1, hm.2⟩)⟩, (h'.g b o hb.1).2⟩
        | _ => exact e2.elim
      | _ => exact e1.elim
    | _ =>
      obtain ⟨f1, f2⟩ := e1
      cases ob1 with
      | row => simp [isRow] at f1
      | _ => obtain ⟨f3, f4⟩ := e2; exact ⟨f3, f4.trans f2⟩
  frame b hb hno := by
    rw [h'.frame b (Nat.lt_of_lt_of_le hb h.size) fun k c hk => ?_, h.frame b hb hno]
    rcases h.own k b c hk with ⟨k0, c0, h0, _⟩ | h0
    · exact hno k0 c0 h0
    · omega
  own k b c hk := by
    rcases h'.own k b c hk with ⟨k1, c1, h1, h2⟩ | h1
    · rcases h.own k1 b c1 h1 with ⟨k0, c0, h0, h3⟩ | h0
      · refine .inl ⟨k0, c0, h0, fun hK hk => ?_⟩
        obtain ⟨ob, hob⟩ := Option.ne_none_iff_exists'.1 hk
        obtain ⟨ob1, h4, _⟩ := h.key k ob hK hob
        have := h2 hK (by rw [h4]; simp)
        subst this
        exact h3 hK hk
      · exact .inr h0
    · exact .inr (Nat.le_trans h.size h1)
  gnew b o hb := by
    rcases h'.gnew b o hb with h1 | h1 | ⟨k, c, h1⟩
    · exact h.gnew b o h1
    · exact .inr (.inl (Nat.le_trans h.size h1))
    · rcases h.own k b c h1 with ⟨k0, c0, h0⟩ | h0
      · exact .inr (.inr ⟨k0, c0, h0.1⟩)
      · exact .inr (.inl h0)
  size := Nat.le_trans h.size h'.size
  os := h'.os.trans h.os
  tape := h'.tape.trans h.tape
  out := h'.out.trans h.out

theorem idx_lt {j i z n : Nat} (hj : j < n) (hi : i < z) : j * z + i < n * z := by
  have h := Nat.mul_le_mul_right z (Nat.succ_le_of_lt hj)
  rw [Nat.succ_mul] at h
  omega

theorem slice_rep {b f cap len z : Nat} {mm : Bool} {G2 : Cs} {cells : Array Value} {T : TypeId} {fr : Nat × Nat} {xs : List PV} {vs : Nat → Value} (hz : 0 < z)
    (hh : w.heap[b]? = some (.cells cells T fr))
    (hel : ∀ (j : Nat) x, xs[j]? = some x → x.cells.length = z ∧ RepV (Gm G B mm) w (vs j) x ∧ ∀ (i : Nat) v, (vs j).cells[i]? = some v → cells[f + j * z + i]? = some v)
    (hl : len ≤ xs.length) (hcap : len ≤ cap) (hG : ∀ o, f ≤ o → o < f + len * z → G2 b o) (hm : ∀ b o, Gm G B mm b o → G2 b o) :
    RepV G2 w (.slice (some ⟨b, f, none⟩) len cap) (.sl (xs.take len)) := by
  by_cases h0 : len = 0
  · subst h0
    exact .nil _ _
  · have hx : ∀ (j : Nat) x, (xs.take len)[j]? = some x → j < len ∧ xs[j]? = some x := fun j x hj => by
      rw [List.getElem?_take] at hj
      split at hj
      · exact ⟨by assumption, hj⟩
      · cases hj
    refine .sl b f len cap z (xs.take len) vs (by simp; omega) hz hcap (fun j x hj => (hel j x (hx j x hj).2).2.1.weaken hm) (fun j x hj => (hel j x (hx j x hj).2).1) ?_
    intro j x i v hj hv
    obtain ⟨h1, h2⟩ := hx j x hj
    obtain ⟨h3, h4, h5⟩ := hel j x h2
    have hi : i < z := by
      have := (Array.getElem?_eq_some_iff.1 hv).1
      rw [h4.size, h3] at this
      exact this
    exact ⟨by rw [cell_of hh]; exact h5 i v hv, hG _ (by omega) (by have := idx_lt h1 hi; omega)⟩

theorem pures_get {cs : List SV} {m : Bool} {l : List PV} (h : pures cs = some (m, l)) : l.length = cs.length ∧ ∀ (i : Nat) (x : PV), l[i]? = some x → ∃ m' : Bool, (m = true → m' = true) ∧ cs[i]? = some (SV.pure m' x) := by
  induction cs generalizing m l with
  | nil => simp only [pures, Option.some.injEq, Prod.mk.injEq] at h; obtain ⟨rfl, rfl⟩ := h; simp
  | cons c r ih =>
    cases c with
    | pure m1 x1 =>
      simp only [pures] at h
      split at h
      · rename_i m' l' hr
        simp only [Option.some.injEq, Prod.mk.injEq] at h
        obtain ⟨rfl, rfl⟩ := h
        obtain ⟨h1, h2⟩ := ih hr
        refine ⟨by simp [h1], fun i x hi => ?_⟩
        cases i with
        | zero => simp at hi; subst hi; exact ⟨m1, fun h => by simp at h; exact h.1, by simp⟩
        | succ i =>
          simp at hi
          obtain ⟨m2, h3, h4⟩ := h2 i x hi
          exact ⟨m2, fun h => by simp at h; exact h3 h.2, by simpa using h4⟩
      · cases h
    | _ => simp [pures] at h

theorem gm_of {G' : Cs} {m m' : Bool} (hG : ∀ b o, G b o → G' b o) (hm : m' = true → m = true) (b o : Nat) (h : Gm G B m b o) : Gm G' B m' b o := ⟨hG b o h.1, fun e => h.2 (hm e)⟩

/-- What is handed on as pure data is what the slot told; the row stays as it is from now on. -/
theorem freeze_sound (h : SInv ρ G B n0 w S) {v : Value} {s : SV} (hv : RelV ρ G B n0 w S v s) {m : Bool} {x : PV} {δ : Store} (hf : freeze n0 S s = some (m, x, δ)) :
    ∃ G', SInv ρ G' B n0 w (over δ S) ∧ Ext All B n0 ρ G w S ρ G' w (over δ S) ∧ RepV (Gm G' B m) w v x := by
  cases s with
  | pure m' x' =>
    simp only [freeze, Option.some.injEq, Prod.mk.injEq] at hf
    obtain ⟨rfl, rfl, rfl⟩ := hf
    cases hv with
    | pure _ _ _ hr => exact ⟨G, by rw [over_nil]; exact h, by rw [over_nil]; exact Ext.refl .., hr⟩
  | row k len =>
    simp only [freeze] at hf
    split at hf
    · rename_i m0 z lim xs hk
      split at hf
      · rename_i hle
        simp only [Option.some.injEq, Prod.mk.injEq] at hf
        obtain ⟨rfl, rfl, rfl⟩ := hf
        cases hv with
        | row _ _ A cap m1 z1 lim1 xs1 hk1 hr =>
          rw [hk] at hk1
          cases hk1
          have hO := h.obj k _ hk
          obtain ⟨o1, o2, o3⟩ := hO
          cases hb : ρ k with
          | none =>
            rcases hr with ⟨h1, h2⟩ | ⟨h1, h2, h3⟩
            · rw [hb] at h2
              obtain ⟨rfl, rfl, rfl⟩ := h2
              have hl : len = 0 := by simpa using hle
              subst hl
              have hS : over [(k, Ob.row m0 z (max lim 0) [])] S = S := by
                funext j
                rw [over_one]
                split
                · rename_i e; subst e; rw [hk]; simp
                · rfl
              rw [hS]
              exact ⟨G, h, Ext.refl .., .nil _ _⟩
            · have hS : over [(k, Ob.row m0 z (max lim len) xs)] S = S := by
                funext j
                rw [over_one]
                split
                · rename_i e; subst e; rw [hk, Nat.max_eq_left h1]
                · rfl
              rw [hS]
              exact ⟨G, h, Ext.refl .., h3⟩
          | some p =>
            obtain ⟨b, c, f⟩ := p
            obtain ⟨o4, o5, cells, T, fr, vs, o6, o7, o8, o9, o10⟩ := o3 b c f hb
            have hset := inv_set (G' := fun b' o => G b' o ∨ (b' = b ∧ o < f + max lim len * z)) (w' := w) (S' := over [(k, Ob.row m0 z (max lim len) xs)] S) (ob' := .row m0 z (max lim len) xs) h hk hb
              (fun j => over_one ..) rfl (fun _ _ => rfl) rfl rfl rfl (fun b' o hg => hg) (fun b' o hg => .inl hg)
              (fun o hg => by
                have := h.gobj k b (c, f) _ o hb hk hg
                simp only [prot] at this ⊢
                have := Nat.mul_le_mul_right z (Nat.le_max_left lim len)
                omega)
              (fun o v _ hv => hv)
              ⟨id, fun _ => rfl, Nat.le_max_left .., rfl, .inl ⟨rfl, rfl⟩⟩
              (fun hx => ⟨by omega, fun hn => absurd (hb.symm.trans hn) (by simp), fun b' c' f' hb' => by
                cases hb.symm.trans hb'
                exact ⟨o4, o5, cells, T, fr, vs, o6, o7, o8, fun o _ ho => .inr ⟨rfl, ho⟩, fun j x hj => ⟨(o10 j x hj).1, (o10 j x hj).2.1.mono (hx.gm m0), (o10 j x hj).2.2⟩⟩⟩)
            refine ⟨_, hset.1, hset.2, ?_⟩
            rcases hr with ⟨h1, h2⟩ | ⟨h1, h2, h3⟩
            · rw [hb] at h2
              obtain ⟨rfl, rfl⟩ := h2
              refine slice_rep o4 o6 o10 hle (by omega) (fun o _ ho => ⟨.inr ⟨rfl, Nat.lt_of_lt_of_le ho (Nat.add_le_add_left (Nat.mul_le_mul_right z (Nat.le_max_right ..)) f)⟩, fun hm => ?_⟩)
                (fun b' o hg => ⟨.inl hg.1, fun hm => hg.2 (by simp only [Bool.and_eq_true] at hm; exact hm.1)⟩)
              simp only [Bool.and_eq_true, decide_eq_true_eq] at hm
              exact h.newk k b _ hm.2 hb
            · exact h3.weaken fun b' o hg => ⟨.inl hg.1, hg.2⟩
      · cases hf
    · cases hf
  | hd k len q =>
    simp only [freeze] at hf
    split at hf
    · rename_i m0 z lim xs hk
      split at hf
      · rename_i hle
        simp only [Option.some.injEq, Prod.mk.injEq] at hf
        obtain ⟨rfl, rfl, rfl⟩ := hf
        cases hv with
        | hd _ _ _ A cap m1 z1 lim1 xs1 hk1 hq hl hh =>
          rw [hk] at hk1
          cases hk1
          obtain ⟨o1, o2, o3⟩ := h.obj k _ hk
          obtain ⟨b, f, hb, rfl⟩ := hh hle.1.symm
          obtain ⟨o4, o5, cells, T, fr, vs, o6, o7, o8, o9, o10⟩ := o3 b cap f hb
          have hset := inv_set (G' := fun b' o => G b' o ∨ (b' = b ∧ o < f + max lim q * z)) (w' := w) (S' := over [(k, Ob.row m0 z (max lim q) xs)] S) (ob' := .row m0 z (max lim q) xs) h hk hb
            (fun j => over_one ..) rfl (fun _ _ => rfl) rfl rfl rfl (fun b' o hg => hg) (fun b' o hg => .inl hg)
            (fun o hg => by
              have := h.gobj k b (cap, f) _ o hb hk hg
              simp only [prot] at this ⊢
              have := Nat.mul_le_mul_right z (Nat.le_max_left lim q)
              omega)
            (fun o v _ hv => hv)
            ⟨id, fun _ => rfl, Nat.le_max_left .., rfl, .inl ⟨rfl, rfl⟩⟩
            (fun hx => ⟨by omega, fun hn => absurd (hb.symm.trans hn) (by simp), fun b' c' f' hb' => by
              cases hb.symm.trans hb'
              exact ⟨o4, o5, cells, T, fr, vs, o6, o7, o8, fun o _ ho => .inr ⟨rfl, ho⟩, fun j x hj => ⟨(o10 j x hj).1, (o10 j x hj).2.1.mono (hx.gm m0), (o10 j x hj).2.2⟩⟩⟩)
          refine ⟨_, hset.1, hset.2, ?_⟩
          refine slice_rep o4 o6 o10 (by omega) (by omega) (fun o _ ho => ⟨.inr ⟨rfl, Nat.lt_of_lt_of_le ho (Nat.add_le_add_left (Nat.mul_le_mul_right z (Nat.le_max_right ..)) f)⟩, fun hm => ?_⟩)
            (fun b' o hg => ⟨.inl hg.1, fun hm => hg.2 (by simp only [Bool.and_eq_true] at hm; exact hm.1)⟩)
          simp only [Bool.and_eq_true, decide_eq_true_eq] at hm
          exact h.newk k b _ hm.2 hb
      · cases hf
    · cases hf
  | view k off z n =>
    cases hv with
    | view _ _ _ _ b c cap ob hk hr hb hcap =>
      simp only [freeze, hk] at hf
      cases ob with
      | box cs =>
        simp only at hf
        split at hf
        · rename_i m0 l hp
          split at hf
          · rename_i hz
            obtain ⟨rfl, hz⟩ := hz
            simp only [Option.some.injEq, Prod.mk.injEq] at hf
            obtain ⟨rfl, rfl, rfl⟩ := hf
            obtain ⟨hl, hget⟩ := pures_get hp
            obtain ⟨b', c', cells, T, fr, o1, o2, o3, o4, o5⟩ := h.obj k _ hk
            rw [hb] at o1
            cases o1
            have hrep : ∀ (i : Nat) v x, cells[i]? = some v → l[i]? = some x → RepV (Gm G B m0) w v x ∧ x.isAgg = false := fun i v x hv hx => by
              obtain ⟨m', hm', hc⟩ := hget i x hx
              obtain ⟨h1, h2⟩ := o5 i v _ hv hc
              cases h1 with
              | pure _ _ _ h1 => exact ⟨h1.weaken (Gm.le hm'), h1.nagg h2⟩
            have hset := inv_set (G' := fun b' o => G b' o ∨ (b' = b ∧ True)) (w' := w) (S' := over [(k, Ob.fbox m0 l)] S) (ob' := .fbox m0 l) h hk hb
              (fun j => over_one ..) rfl (fun _ _ => rfl) rfl rfl rfl (fun b' o hg => hg) (fun b' o hg => .inl hg) (fun o hg => trivial) (fun o v _ hv => hv) ⟨rfl, rfl⟩
              (fun hx => ⟨b, c, cells, T, fr, hb, o2, o4.trans hl.symm, fun o ho => .inr ⟨rfl, trivial⟩, fun i v x hv hx' => ⟨(hrep i v x hv hx').1.mono (hx.gm m0), (hrep i v x hv hx').2⟩⟩)
            refine ⟨_, hset.1, hset.2, ?_⟩
            by_cases h0 : n = 0
            · subst h0
              exact .nil _ _
            · have hx : ∀ (j : Nat) x, ((l.drop off).take n)[j]? = some x → j < n ∧ l[off + j]? = some x := fun j x hj => by
                rw [List.getElem?_take] at hj
                split at hj
                · rw [List.getElem?_drop] at hj
                  exact ⟨by assumption, hj⟩
                · cases hj
              have hcv : ∀ (j : Nat) x, l[off + j]? = some x → ∃ v, cells[off + j]? = some v := fun j x hj => by
                have := (List.getElem?_eq_some_iff.1 hj).1
                exact ⟨cells[off + j]'(by omega), Array.getElem?_eq_getElem (by omega)⟩
              refine .sl b off n cap 1 _ (fun j => (cells[off + j]?).getD undef) (by simp; omega) Nat.one_pos hcap ?_ ?_ ?_
              · intro j x hj
                obtain ⟨h1, h2⟩ := hx j x hj
                obtain ⟨v, hv⟩ := hcv j x h2
                simp only [hv, Option.getD_some]
                exact (hrep _ v x hv h2).1.weaken fun b' o hg => ⟨.inl hg.1, fun hm => hg.2 (by simp only [Bool.and_eq_true] at hm; exact hm.1)⟩
              · intro j x hj
                obtain ⟨h1, h2⟩ := hx j x hj
                obtain ⟨v, hv⟩ := hcv j x h2
                rw [nagg_cells (hrep _ v x hv h2).2]
                rfl
              · intro j x i u hj hu
                obtain ⟨h1, h2⟩ := hx j x hj
                obtain ⟨v, hv⟩ := hcv j x h2
                simp only [hv, Option.getD_some] at hu
                have hpl : Plain v := ((hrep _ v x hv h2).1).plain (hrep _ v x hv h2).2
                rw [hpl.cells] at hu
                cases i with
                | zero =>
                  simp at hu
                  subst hu
                  simp only [Nat.mul_one, Nat.add_zero]
                  refine ⟨by rw [cell_of o2]; exact hv, .inr ⟨rfl, trivial⟩, fun hm => ?_⟩
                  simp only [Bool.and_eq_true, decide_eq_true_eq] at hm
                  exact h.newk k b c hm.2 hb
                | succ i => simp at hu
          · cases hf
        · cases hf
      | fbox m0 l =>
        simp only at hf
        split at hf
        · rename_i hz
          obtain ⟨rfl, hz⟩ := hz
          simp only [Option.some.injEq, Prod.mk.injEq] at hf
          obtain ⟨rfl, rfl, rfl⟩ := hf
          have hS : over [(k, Ob.fbox m0 l)] S = S := by
            funext j
            rw [over_one]
            split
            · rename_i e; subst e; rw [hk]
            · rfl
          rw [hS]
          obtain ⟨b', c', cells, T, fr, o1, o2, o3, o4, hrep⟩ := h.obj k _ hk
          rw [hb] at o1
          cases o1
          refine ⟨G, h, Ext.refl .., ?_⟩
          by_cases h0 : n = 0
          · subst h0
            exact .nil _ _
          · have hx : ∀ (j : Nat) x, ((l.drop off).take n)[j]? = some x → j < n ∧ l[off + j]? = some x := fun j x hj => by
              rw [List.getElem?_take] at hj
              split at hj
              · rw [List.getElem?_drop] at hj
                exact ⟨by assumption, hj⟩
              · cases hj
            have hcv : ∀ (j : Nat) x, l[off + j]? = some x → ∃ v, cells[off + j]? = some v := fun j x hj => by
              have := (List.getElem?_eq_some_iff.1 hj).1
              exact ⟨cells[off + j]'(by omega), Array.getElem?_eq_getElem (by omega)⟩
            refine .sl b off n cap 1 _ (fun j => (cells[off + j]?).getD undef) (by simp; omega) Nat.one_pos hcap ?_ ?_ ?_
            · intro j x hj
              obtain ⟨h1, h2⟩ := hx j x hj
              obtain ⟨v, hv⟩ := hcv j x h2
              simp only [hv, Option.getD_some]
              exact (hrep _ v x hv h2).1.weaken fun b' o hg => ⟨hg.1, fun hm => hg.2 (by simp only [Bool.and_eq_true] at hm; exact hm.1)⟩
            · intro j x hj
              obtain ⟨h1, h2⟩ := hx j x hj
              obtain ⟨v, hv⟩ := hcv j x h2
              rw [nagg_cells (hrep _ v x hv h2).2]
              rfl
            · intro j x i u hj hu
              obtain ⟨h1, h2⟩ := hx j x hj
              obtain ⟨v, hv⟩ := hcv j x h2
              simp only [hv, Option.getD_some] at hu
              have hpl : Plain v := ((hrep _ v x hv h2).1).plain (hrep _ v x hv h2).2
              rw [hpl.cells] at hu
              cases i with
              | zero =>
                simp at hu
                subst hu
                simp only [Nat.mul_one, Nat.add_zero]
                refine ⟨by rw [cell_of o2]; exact hv, o4 _ ((Array.getElem?_eq_some_iff.1 hv).1), fun hm => ?_⟩
                simp only [Bool.and_eq_true, decide_eq_true_eq] at hm
                exact h.newk k b c hm.2 hb
              | succ i => simp at hu
        · cases hf
      | _ => simp at hf
  | _ => simp [freeze] at hf

/-! ### types, addresses -/
variable {P : Program}

theorem norm1_len (x : PV) : (norm1 x).cells.length = x.cells.length := by
  unfold norm1
  split
  · rename_i h
    cases x <;> simp [isNilP] at h <;> rfl
  · rfl

theorem norm_len (x : PV) : (norm x).cells.length = x.cells.length := by
  cases x <;> first | exact norm1_len _ | simp [norm, PV.cells]

theorem norm1_agg {x : PV} (h : x.isAgg = false) : (norm1 x).isAgg = false := by
  unfold norm1
  split
  · rfl
  · exact h

theorem norm_agg (x : PV) : (norm x).isAgg = x.isAgg := by
  cases hx : x.isAgg with
  | false => cases x <;> simp [PV.isAgg] at hx <;> exact norm1_agg rfl
  | true => cases x <;> simp [PV.isAgg] at hx <;> rfl

theorem isNilP_val {G : Cs} {w : World} {v : Value} {x : PV} (h : RepV G w v x) (hn : isNilP x = true) : v = .slice none 0 0 := by
  cases h <;> simp [isNilP] at hn
  split at hn
  · rename_i h; cases h; rfl
  · cases hn

theorem RepV.norm1 {G : Cs} {w : World} {v : Value} {x : PV} (h : RepV G w v x) : RepV G w v (V.norm1 x) := by
  unfold V.norm1
  split
  · rename_i hn
    rw [isNilP_val h hn]
    exact .nil none 0
  · exact h

theorem RepV.norm {G : Cs} {w : World} {v : Value} {x : PV} (h : RepV G w v x) : RepV G w v (V.norm x) := by
  cases h with
  | agg vs cs hl hc hp =>
    refine .agg vs _ (by simpa using hl) (fun i v c hv hcc => ?_) fun c hc' => ?_
    · rw [List.getElem?_map] at hcc
      cases hci : cs[i]? with
      | none => rw [hci] at hcc; cases hcc
      | some c0 =>
        rw [hci] at hcc
        cases hcc
        exact (hc i v c0 hv hci).norm1
    · obtain ⟨c0, h0, rfl⟩ := List.mem_map.1 hc'
      exact norm1_agg (hp c0 h0)
  | int k n => exact .int k n
  | bool b => exact .bool b
  | str s => exact .str s
  | opq v h => exact RepV.norm1 (.opq v h)
  | nil A cap => exact .nil A cap
  | sl b off n cap z xs vs hn hz hcap he hw hm => exact .sl b off n cap z xs vs hn hz hcap he hw hm

theorem freezeN_sound (h : SInv ρ G B n0 w S) {v : Value} {s : SV} (hv : RelV ρ G B n0 w S v s) {m : Bool} {x : PV} {δ : Store} (hf : freezeN n0 S s = some (m, x, δ)) :
    ∃ G', SInv ρ G' B n0 w (over δ S) ∧ Ext All B n0 ρ G w S ρ G' w (over δ S) ∧ RepV (Gm G' B m) w v x := by
  unfold freezeN at hf
  split at hf
  · rename_i m' y δ' hf'
    simp only [Option.some.injEq, Prod.mk.injEq] at hf
    obtain ⟨rfl, rfl, rfl⟩ := hf
    obtain ⟨G', h1, h2, h3⟩ := freeze_sound h hv hf'
    exact ⟨G', h1, h2, h3.norm⟩
  · cases hf

theorem add_at (b o j : Nat) : (⟨b, o, none⟩ : Addr).add j = ⟨b, o + j, none⟩ := by
  unfold Addr.add
  split
  · rename_i h; simp [h]
  · rfl

theorem okT_info {t : TypeId} (h : okT P t = true) : ∃ i d, P.info? t = some i ∧ P.underlying t = some d ∧ P.cellsOf t = i.size := by
  simp only [okT, Bool.and_eq_true, decide_eq_true_eq, Option.isSome_iff_exists] at h
  obtain ⟨h1, d, h2⟩ := h
  cases hi : P.info? t with
  | none => simp [Program.cellsOf, hi] at h1
  | some i => exact ⟨i, d, rfl, h2, by simp [Program.cellsOf, hi]⟩

theorem run_sizeV {t : TypeId} (h : 0 < P.cellsOf t) (w : World) : (sizeOf t).run P w = .ok (P.cellsOf t) w := by
  cases hi : P.info? t with
  | none => simp [Program.cellsOf, hi] at h
  | some i => exact run_sizeOf w hi

theorem run_isAggV {t : TypeId} {d : TypeDesc} (h : P.underlying t = some d) (w : World) : (isAgg t).run P w = .ok (isAggT P t) w := by
  unfold isAgg isAggT
  simp only [Sem.run_bind, run_underlying h, Result.andThen_ok, h]
  cases d <;> rfl

theorem run_loadVarV {t : TypeId} (hok : okT P t = true) (w : World) (b off : Nat) (vs : List Value) (hl : vs.length = P.cellsOf t)
    (hc : ∀ (j : Nat) v, vs[j]? = some v → w.cell? ⟨b, off + j, none⟩ = some v) :
    (loadVar t ⟨b, off, none⟩).run P w = .ok (if isAggT P t then .agg vs.toArray else vs.headD undef) w := by
  obtain ⟨i, d, h1, h2, h3⟩ := okT_info hok
  have hpos : 0 < P.cellsOf t := by simp only [okT, Bool.and_eq_true, decide_eq_true_eq] at hok; exact hok.1
  unfold loadVar
  simp only [Sem.run_bind, run_isAggV h2, Result.andThen_ok]
  cases hag : isAggT P t with
  | true =>
    simp only [if_true, Sem.run_bind, run_sizeV hpos, Result.andThen_ok]
    rw [← hl, run_loadCells_list w _ vs (fun j v hv => by rw [add_at]; exact hc j v hv)]
    rfl
  | false =>
    cases vs with
    | nil => simp at hl; omega
    | cons v r =>
      have := hc 0 v rfl
      simp only [Nat.add_zero] at this
      simp [run_load, this]

theorem run_loadAtV {t : TypeId} (hok : okT P t = true) (w : World) (b off : Nat) (vs : List Value) (hl : vs.length = P.cellsOf t)
    (hc : ∀ (j : Nat) v, vs[j]? = some v → w.cell? ⟨b, off + j, none⟩ = some v) :
    (Instr.loadAt t (.pointer (some ⟨b, off, none⟩))).run P w = .ok (if isAggT P t then .agg vs.toArray else vs.headD undef) w := by
  unfold Instr.loadAt Instr.sureAddr
  simp only [Sem.run_bind, Sem.run_pure, Result.andThen_ok]
  exact run_loadVarV hok w b off vs hl hc

theorem kept_some {base : Nat} {look : Look} {cs : List SV} {r : Bool × List PV × Store} (h : kept base look cs = some r) : freezes base look cs = some r := by
  unfold kept at h
  split at h
  · cases h
  · exact h

theorem freezes_sound (h : SInv ρ G B n0 w S) {ss : List SV} : ∀ {ρ : Emb} {G : Cs} {S : Look}, SInv ρ G B n0 w S → ∀ {vs : List Value} {m : Bool} {l : List PV} {δ : Store}, vs.length = ss.length →
    (∀ (i : Nat) v s, vs[i]? = some v → ss[i]? = some s → RelV ρ G B n0 w S v s) → freezes n0 S ss = some (m, l, δ) →
    l.length = ss.length ∧ ∃ G', SInv ρ G' B n0 w (over δ S) ∧ Ext All B n0 ρ G w S ρ G' w (over δ S) ∧ ∀ (i : Nat) v x, vs[i]? = some v → l[i]? = some x → RepV (Gm G' B m) w v x := by
  clear h
  induction ss with
  | nil =>
    intro ρ G S h vs m l δ hl hv hf
    simp only [freezes, Option.some.injEq, Prod.mk.injEq] at hf
    obtain ⟨rfl, rfl, rfl⟩ := hf
    exact ⟨rfl, G, by rw [over_nil]; exact h, by rw [over_nil]; exact Ext.refl .., fun i v x _ hx => by simp at hx⟩
  | cons s r ih =>
    intro ρ G S h vs m l δ hl hv hf
    simp only [freezes] at hf
    split at hf
    · rename_i m1 x1 δ1 h1
      split at hf
      · rename_i m2 l2 δ2 h2
        simp only [Option.some.injEq, Prod.mk.injEq] at hf
        obtain ⟨rfl, rfl, rfl⟩ := hf
        cases vs with
        | nil => simp at hl
        | cons v vs =>
          obtain ⟨G1, a1, a2, a3⟩ := freeze_sound h (hv 0 v s rfl rfl) h1
          obtain ⟨b0, G2, b1, b2, b3⟩ := ih a1 (by simpa using hl) (fun i v' s' hi hs => (hv (i + 1) v' s' (by simpa using hi) (by simpa using hs)).ext a2) h2
          refine ⟨by simp [b0], G2, by rw [over_append]; exact b1, by rw [over_append]; exact a2.trans b2, fun i v' x hi hx => ?_⟩
          cases i with
          | zero =>
            simp at hi hx
            subst hi hx
            exact a3.mono fun b o hb => ⟨⟨(b2.g b o hb.1).1, fun hm => hb.2 (by simp at hm; exact hm.1)⟩, fun _ hv => hv⟩
          | succ i =>
            simp at hi hx
            exact (b3 i v' x hi hx).weaken (Gm.le fun hm => by simp at hm; exact hm.2)
      · cases hf
    · cases hf

/-! ### load -/
theorem rep_ofCells {m : Bool} {ag : Bool} {cs : List PV} {y : PV} {vs : List Value} (ho : ofCells ag cs = some y) (hl : vs.length = cs.length)
    (hc : ∀ (i : Nat) v c, vs[i]? = some v → cs[i]? = some c → RepV (Gm G B m) w v c ∧ c.isAgg = false) :
    RepV (Gm G B m) w (if ag then .agg vs.toArray else vs.headD undef) y := by
  unfold ofCells at ho
  cases ag with
  | true =>
    simp only [if_true, Option.some.injEq] at ho
    subst ho
    refine .agg _ _ (by simpa using hl) (fun i v c hv hcc => (hc i v c (by simpa using hv) hcc).1) (fun c hm => ?_)
    obtain ⟨i, hi⟩ := List.getElem?_of_mem hm
    have : i < vs.length := by rw [hl]; exact (List.getElem?_eq_some_iff.1 hi).1
    exact (hc i _ c (List.getElem?_eq_getElem this) hi).2
  | false =>
    simp only [Bool.false_eq_true, if_false] at ho
    split at ho
    · rename_i x
      simp only [Option.some.injEq] at ho
      subst ho
      match vs, hl with
      | [v], _ => exact (hc 0 v x rfl rfl).1
    · cases ho

theorem take_drop_get {α : Type} {l : List α} {off n i : Nat} {x : α} (h : ((l.drop off).take n)[i]? = some x) : i < n ∧ l[off + i]? = some x := by
  rw [List.getElem?_take] at h
  split at h
  · rw [List.getElem?_drop] at h
    exact ⟨by assumption, h⟩
  · cases h

theorem load_sound (h : SInv ρ G B n0 w S) {t : TypeId} {v : Value} {a : SV} (hv : RelV ρ G B n0 w S v a) {e : Eff} (he : loadV P n0 S t a = some e) :
    ∃ u G', (Instr.loadAt t v).run P w = .ok u w ∧ SInv ρ G' B n0 w (over e.wr S) ∧ Ext All B n0 ρ G w S ρ G' w (over e.wr S) ∧ RelV ρ G' B n0 w (over e.wr S) u e.res := by
  unfold loadV at he
  by_cases hok : okT P t = false
  · rw [if_pos hok] at he; cases he
  · rw [if_neg hok] at he
    have hok : okT P t = true := by simpa using hok
    cases hv with
    | ptr k off b c ob hk hr hb =>
      simp only [hk] at he
      cases ob with
      | box cs =>
        obtain ⟨b', c', cells, T, fr, o1, o2, o3, o4, o5⟩ := h.obj k _ hk
        rw [hb] at o1
        cases o1
        simp only at he
        split at he
        · rename_i hle
          have hvl : ((cells.toList.drop off).take (P.cellsOf t)).length = P.cellsOf t := by simp; omega
          have hrun := run_loadAtV hok w b off ((cells.toList.drop off).take (P.cellsOf t)) hvl (fun j v hj => by
            obtain ⟨h1, h2⟩ := take_drop_get hj
            rw [cell_of o2]
            simpa using h2)
          have hrel : ∀ (i : Nat) v s, ((cells.toList.drop off).take (P.cellsOf t))[i]? = some v → ((cs.drop off).take (P.cellsOf t))[i]? = some s → RelV ρ G B n0 w S v s ∧ Plain v := fun i v s hi hs =>
            o5 (off + i) v s (by simpa using (take_drop_get hi).2) (take_drop_get hs).2
          cases hag : isAggT P t with
          | true =>
            simp only [hag, if_true, Option.some.injEq] at he
            subst he
            simp only [hag, if_true] at hrun
            unfold gather
            split
            · rename_i m l δ hf
              have hf := kept_some hf
              obtain ⟨b0, G', b1, b2, b3⟩ := freezes_sound h h (vs := (cells.toList.drop off).take (P.cellsOf t)) (by simp; omega) (fun i v s hi hs => (hrel i v s hi hs).1) hf
              refine ⟨_, G', hrun, b1, b2, .pure _ _ _ (.agg _ _ (by simp [b0]; omega) (fun i v x hi hx => b3 i v x (by simpa using hi) hx) fun c hm => ?_)⟩
              obtain ⟨i, hi⟩ := List.getElem?_of_mem hm
              have hlt : i < ((cells.toList.drop off).take (P.cellsOf t)).length := by
                have := (List.getElem?_eq_some_iff.1 hi).1
                rw [b0] at this
                simp at this ⊢
                omega
              have hlt2 : i < ((cs.drop off).take (P.cellsOf t)).length := by simp at hlt ⊢; omega
              exact (b3 i _ c (List.getElem?_eq_getElem hlt) hi).nagg (hrel i _ _ (List.getElem?_eq_getElem hlt) (List.getElem?_eq_getElem hlt2)).2
            · refine ⟨_, G, hrun, by rw [over_nil]; exact h, by rw [over_nil]; exact Ext.refl .., ?_⟩
              rw [over_nil]
              refine .agg _ _ (by simp; omega) (fun i v s hi hs => (hrel i v s (by simpa using hi) hs).1) fun v hm => ?_
              obtain ⟨i, hi⟩ := List.getElem?_of_mem (Array.mem_toList_iff.2 hm)
              have hlt : i < ((cs.drop off).take (P.cellsOf t)).length := by
                have := (List.getElem?_eq_some_iff.1 hi).1
                simp at this ⊢
                omega
              exact (hrel i v _ (by simpa using hi) (List.getElem?_eq_getElem hlt)).2
          | false =>
            simp only [hag, Bool.false_eq_true, if_false] at he hrun
            split at he
            · rename_i s hs
              simp only [Option.some.injEq] at he
              subst he
              refine ⟨_, G, hrun, by rw [over_nil]; exact h, by rw [over_nil]; exact Ext.refl .., ?_⟩
              rw [over_nil]
              have hn : P.cellsOf t = 1 := by
                have := congrArg List.length hs
                simp at this
                omega
              have h0 : ((cells.toList.drop off).take (P.cellsOf t))[0]? = some (((cells.toList.drop off).take (P.cellsOf t)).headD undef) := by
                cases hc : (cells.toList.drop off).take (P.cellsOf t) with
                | nil => rw [hc] at hvl; simp at hvl; omega
                | cons x r => rfl
              exact (hrel 0 _ s h0 (by rw [hs]; rfl)).1
            · cases he
        · cases he
      | fbox m cs =>
        obtain ⟨b', c', cells, T, fr, o1, o2, o3, o4, o5⟩ := h.obj k _ hk
        rw [hb] at o1
        cases o1
        simp only at he
        split at he
        · rename_i hle
          split at he
          · rename_i x hx
            simp only [Option.some.injEq] at he
            subst he
            have hvl : ((cells.toList.drop off).take (P.cellsOf t)).length = P.cellsOf t := by simp; omega
            refine ⟨_, G, run_loadAtV hok w b off ((cells.toList.drop off).take (P.cellsOf t)) hvl (fun j v hj => by
              rw [cell_of o2]
              simpa using (take_drop_get hj).2), by rw [over_nil]; exact h, by rw [over_nil]; exact Ext.refl .., ?_⟩
            rw [over_nil]
            exact .pure _ _ _ (rep_ofCells hx (by simp; omega) fun i v s hi hs => o5 (off + i) v s (by simpa using (take_drop_get hi).2) (take_drop_get hs).2)
          · cases he
        · cases he
      | _ => simp at he
    | eptr k len i r v m z lim xs hk hi hle hv =>
      simp only [hk] at he
      split at he
      · rename_i hl
        split at he
        · rename_i x hx
          split at he
          · rename_i hr
            split at he
            · rename_i y hy
              simp only [Option.some.injEq] at he
              subst he
              obtain ⟨b, c, f, hb, rfl⟩ := hv hl.symm
              obtain ⟨o1, o2, o3⟩ := h.obj k _ hk
              obtain ⟨o4, o5, cells, T, fr, vs, o6, o7, o8, o9, o10⟩ := o3 b c f hb
              obtain ⟨p1, p2, p3⟩ := o10 i x hx
              have hsz := p2.size
              have hvl : (((vs i).cells.toList.drop r).take (P.cellsOf t)).length = P.cellsOf t := by simp; omega
              refine ⟨_, G, run_loadAtV hok w b (f + i * z + r) (((vs i).cells.toList.drop r).take (P.cellsOf t)) hvl (fun j v hj => by
                rw [cell_of o6, Nat.add_assoc]
                exact p3 (r + j) v (by simpa using (take_drop_get hj).2)), by rw [over_nil]; exact h, by rw [over_nil]; exact Ext.refl .., ?_⟩
              rw [over_nil]
              exact .pure _ _ _ (rep_ofCells hy (by simp; omega) fun j v s hj hs => p2.cell (r + j) v s (by simpa using (take_drop_get hj).2) (take_drop_get hs).2)
            · cases he
          · cases he
        · cases he
      · cases he
    | rptr m cs b off hp hc =>
      simp only at he
      split at he
      · rename_i hle
        split at he
        · rename_i y hy
          simp only [Option.some.injEq] at he
          subst he
          let vs := (List.range (P.cellsOf t)).map fun j => (w.cell? ⟨b, off + j, none⟩).getD undef
          have hget : ∀ (j : Nat) v, vs[j]? = some v → w.cell? ⟨b, off + j, none⟩ = some v ∧ ∀ s, cs[j]? = some s → RepV (Gm G B m) w v s := fun j v hj => by
            simp only [vs, List.getElem?_map, Option.map_eq_some_iff] at hj
            obtain ⟨j', hj', rfl⟩ := hj
            obtain ⟨rfl, hlt⟩ : j' = j ∧ j < P.cellsOf t := by
              have := List.getElem?_eq_some_iff.1 hj'
              obtain ⟨h1, h2⟩ := this
              simp at h1 h2
              exact ⟨h2.symm, h1⟩
            have hs : cs[j']? = some (cs[j']'(by omega)) := List.getElem?_eq_getElem (by omega)
            obtain ⟨v, h1, h2, h3⟩ := hc j' _ hs
            refine ⟨by simp [h1], fun s hs' => ?_⟩
            rw [hs] at hs'
            cases hs'
            simpa [h1] using h3
          refine ⟨_, G, run_loadAtV hok w b off vs (by simp [vs]) (fun j v hj => (hget j v hj).1), by rw [over_nil]; exact h, by rw [over_nil]; exact Ext.refl .., ?_⟩
          rw [over_nil]
          refine .pure _ _ _ (rep_ofCells hy (by simp [vs]; omega) fun j v s hj hs => ?_)
          rw [List.getElem?_take] at hs
          split at hs
          · exact ⟨(hget j v hj).2 s hs, hp s (List.mem_of_getElem? hs)⟩
          · cases hs
        · cases he
      · cases he
    | _ => simp at he

/-! ### store -/
theorem putL_length {α : Type} (l : List α) (i : Nat) (r : List α) : (putL l i r).length = l.length := by
  induction r generalizing l i with
  | nil => rfl
  | cons x r ih => simp [putL, ih]

theorem putL_get {α : Type} (l : List α) (i : Nat) (r : List α) (j : Nat) (h : i + r.length ≤ l.length) :
    (putL l i r)[j]? = if i ≤ j ∧ j < i + r.length then r[j - i]? else l[j]? := by
  induction r generalizing l i with
  | nil => simp [putL]; intro h1 h2; omega
  | cons x r ih =>
    simp only [putL]
    rw [ih _ _ (by simp at h ⊢; omega)]
    simp only [List.length_cons] at h ⊢
    by_cases h1 : j = i
    · subst h1
      rw [if_neg (by omega), if_pos (by omega), Nat.sub_self, List.getElem?_set_self (by omega)]
      rfl
    · by_cases h2 : i + 1 ≤ j ∧ j < i + 1 + r.length
      · rw [if_pos h2, if_pos (by omega)]
        have : j - i = (j - (i + 1)) + 1 := by omega
        rw [this]
        simp
      · rw [if_neg h2, if_neg (by omega)]
        rw [List.getElem?_set_ne (by omega)]

theorem plain_one {v : Value} (h : Plain v) : v.oneCell' = true := by cases v <;> simp_all [Plain, Value.oneCell']

theorem setCell_heap {w : World} {b o : Nat} {v : Value} {c : Array Value} {T : TypeId} {fr : Nat × Nat} (h : w.heap[b]? = some (.cells c T fr)) :
    (w.setCell ⟨b, o, none⟩ v).heap.size = w.heap.size ∧ (∀ b', b' ≠ b → (w.setCell ⟨b, o, none⟩ v).heap[b']? = w.heap[b']?) ∧
      (w.setCell ⟨b, o, none⟩ v).heap[b]? = some (.cells (c.setIfInBounds o v) T fr) := by
  refine ⟨by simp [World.setCell], fun b' hb => ?_, ?_⟩
  · simp [World.setCell, Array.getElem?_modify, Ne.symm hb]
  · simp [World.setCell, Array.getElem?_modify, h]

theorem run_storeCellsV (vs : List Value) : ∀ (i : Nat) (w : World) (b off : Nat) (c : Array Value) (T : TypeId) (fr : Nat × Nat), w.heap[b]? = some (.cells c T fr) → Free fr c.size →
    off + i + vs.length ≤ c.size → (∀ v ∈ vs, Plain v) →
    ∃ w', (storeCells ⟨b, off, none⟩ vs i).run P w = .ok () w' ∧ w'.heap.size = w.heap.size ∧ (∀ b', b' ≠ b → w'.heap[b']? = w.heap[b']?) ∧
      (∃ c', w'.heap[b]? = some (.cells c' T fr) ∧ c'.toList = putL c.toList (off + i) vs) ∧ w'.os = w.os ∧ w'.tape = w.tape ∧ w'.output = w.output := by
  induction vs with
  | nil => intro i w b off c T fr h hf hl hp; exact ⟨w, rfl, rfl, fun _ _ => rfl, ⟨c, h, rfl⟩, rfl, rfl, rfl⟩
  | cons v r ih =>
    intro i w b off c T fr h hf hl hp
    simp only [List.length_cons] at hl
    have hadd := add_at b off i
    have hc : w.cell? ⟨b, off + i, none⟩ = some (c[off + i]'(by omega)) := by rw [cell_of h]; exact Array.getElem?_eq_getElem (by omega)
    have hz : w.frozen? ⟨b, off + i, none⟩ = false := by
      simp only [World.frozen?, h]
      have := hf.not (o := off + i) (by omega)
      by_cases h1 : fr.1 ≤ off + i
      · have h2 : ¬ off + i < fr.2 := fun h2 => this ⟨h1, h2⟩
        simp [h2]
      · simp [h1]
    have hst : (store ((⟨b, off, none⟩ : Addr).add i) v).run P w = .ok () (w.setCell ⟨b, off + i, none⟩ v) := by
      rw [hadd, run_store P w _ v _ (plain_one (hp v (by simp)))]
      simp [hc, hz]
    obtain ⟨s1, s2, s3⟩ := setCell_heap (o := off + i) (v := v) h
    obtain ⟨w', r1, r2, r3, ⟨c', r4, r5⟩, r6, r7, r8⟩ := ih (i + 1) (w.setCell ⟨b, off + i, none⟩ v) b off (c.setIfInBounds (off + i) v) T fr s3 (by simpa only [Array.size_setIfInBounds] using hf) (by simp; omega) (fun x hx => hp x (by simp [hx]))
    refine ⟨w', ?_, r2.trans s1, fun b' hb => (r3 b' hb).trans (s2 b' hb), ⟨c', r4, ?_⟩, r6, r7, r8⟩
    · simp only [storeCells, Sem.run_bind, hst, Result.andThen_ok]
      exact r1
    · rw [r5, Array.toList_setIfInBounds]
      rfl

theorem run_storeAtV {t : TypeId} (hok : okT P t = true) (w : World) (b off : Nat) (x : Value) (c : Array Value) (T : TypeId) (fr : Nat × Nat) (h : w.heap[b]? = some (.cells c T fr)) (hf : Free fr c.size)
    (hx : x.cells.size = P.cellsOf t) (hl : off + P.cellsOf t ≤ c.size) (hp : ∀ v ∈ x.cells.toList, Plain v) :
    ∃ w', (Instr.storeAt t (.pointer (some ⟨b, off, none⟩)) x).run P w = .ok () w' ∧ w'.heap.size = w.heap.size ∧ (∀ b', b' ≠ b → w'.heap[b']? = w.heap[b']?) ∧
      (∃ c', w'.heap[b]? = some (.cells c' T fr) ∧ c'.toList = putL c.toList off x.cells.toList) ∧ w'.os = w.os ∧ w'.tape = w.tape ∧ w'.output = w.output := by
  have hpos : 0 < P.cellsOf t := by simp only [okT, Bool.and_eq_true, decide_eq_true_eq] at hok; exact hok.1
  obtain ⟨w', r1, r2⟩ := run_storeCellsV (P := P) x.cells.toList 0 w b off c T fr h hf (by simp; omega) hp
  refine ⟨w', ?_, r2⟩
  unfold Instr.storeAt Instr.sureAddr storeVar
  simp only [Sem.run_bind, Sem.run_pure, Result.andThen_ok, run_sizeV hpos, hx, ne_eq, not_true_eq_false, if_false]
  exact r1

/-- The cells of a value that is stored. -/
theorem cells_rel {v : Value} {s : SV} {l : List SV} (hv : RelV ρ G B n0 w S v s) (hl : cellsOf s = some l) :
    v.cells.size = l.length ∧ ∀ (i : Nat) u c, v.cells[i]? = some u → l[i]? = some c → RelV ρ G B n0 w S u c ∧ Plain u := by
  have one : ∀ {v : Value} {s : SV}, Plain v → RelV ρ G B n0 w S v s → l = [s] → v.cells.size = l.length ∧ ∀ (i : Nat) u c, v.cells[i]? = some u → l[i]? = some c → RelV ρ G B n0 w S u c ∧ Plain u := by
    intro v s hp hv hl
    subst hl
    rw [hp.cells]
    refine ⟨rfl, fun i u c hu hc => ?_⟩
    cases i with
    | zero => simp at hu hc; subst hu hc; exact ⟨hv, hp⟩
    | succ i => simp at hu
  cases hv with
  | pure m x v h =>
    cases x with
    | agg cs =>
      simp only [cellsOf, Option.some.injEq] at hl
      subst hl
      refine ⟨by simp [h.size, PV.cells], fun i u c hu hc => ?_⟩
      simp only [List.getElem?_map, Option.map_eq_some_iff] at hc
      obtain ⟨y, hy, rfl⟩ := hc
      obtain ⟨h1, h2⟩ := h.cell i u y hu hy
      exact ⟨.pure _ _ _ h1, h1.plain h2⟩
    | _ => exact one (h.plain rfl) (.pure _ _ _ h) (by simpa [cellsOf] using hl.symm)
  | agg cs vs h1 hc hp =>
    simp only [cellsOf, Option.some.injEq] at hl
    subst hl
    exact ⟨h1, fun i u c hu hcc => ⟨hc i u c hu hcc, hp u (Array.mem_of_getElem? hu)⟩⟩
  | row k len A cap m z lim xs hk h => exact one trivial (.row k len A cap m z lim xs hk h) (by simpa [cellsOf] using hl.symm)
  | ptr k off b c ob hk hr h => exact one trivial (.ptr k off b c ob hk hr h) (by simpa [cellsOf] using hl.symm)
  | eptr k len i r v m z lim xs hk hi hle h => simp [cellsOf] at hl
  | tl k len i v m z lim xs hk hi hle h => simp [cellsOf] at hl
  | hd k len q A cap m z lim xs hk hi hle h => simp [cellsOf] at hl
  | rptr m cs b off hp hc => simp [cellsOf] at hl
  | map k b c ob hk hr h => exact one trivial (.map k b c ob hk hr h) (by simpa [cellsOf] using hl.symm)
  | iter k b c ob hk hr h => exact one trivial (.iter k b c ob hk hr h) (by simpa [cellsOf] using hl.symm)
  | view k off z n b c cap ob hk hr h hcap => exact one trivial (.view k off z n b c cap ob hk hr h hcap) (by simpa [cellsOf] using hl.symm)
  | clo f caps vs hl' hc => exact one trivial (.clo f caps vs hl' hc) (by simpa [cellsOf] using hl.symm)
  | tuple cs vs hl' hc => simp [cellsOf] at hl
  | dead v => simp [cellsOf] at hl

theorem RepV.flag {m : Bool} {v : Value} {y : PV} (h : RepV (Gm G B m) w v y) : RepV (Gm G B (m || y.scalar)) w v y := by
  cases m with
  | true => exact h
  | false => cases hs : y.scalar with
    | false => exact h
    | true => exact h.scalar hs

theorem rep_ofCells' {G : Cs} {ag : Bool} {cs : List PV} {y : PV} {vs : List Value} (ho : ofCells ag cs = some y) (hl : vs.length = cs.length)
    (hc : ∀ (i : Nat) v c, vs[i]? = some v → cs[i]? = some c → RepV G w v c ∧ c.isAgg = false) :
    RepV G w (if ag then .agg vs.toArray else vs.headD undef) y ∧ (if ag then Value.agg vs.toArray else vs.headD undef).cells.toList = vs ∧ y.cells.length = cs.length := by
  unfold ofCells at ho
  cases ag with
  | true =>
    simp only [if_true, Option.some.injEq] at ho
    subst ho
    refine ⟨.agg _ _ (by simpa using hl) (fun i v c hv hcc => (hc i v c (by simpa using hv) hcc).1) (fun c hm => ?_), by simp [Value.cells], rfl⟩
    obtain ⟨i, hi⟩ := List.getElem?_of_mem hm
    have : i < vs.length := by rw [hl]; exact (List.getElem?_eq_some_iff.1 hi).1
    exact (hc i _ c (List.getElem?_eq_getElem this) hi).2
  | false =>
    simp only [Bool.false_eq_true, if_false] at ho
    split at ho
    · rename_i x
      simp only [Option.some.injEq] at ho
      subst ho
      match vs, hl with
      | [v], _ =>
        obtain ⟨h1, h2⟩ := hc 0 v x rfl rfl
        exact ⟨h1, by simp [(h1.plain h2).cells], by rw [nagg_cells h2]⟩
    · cases ho

theorem mem_plain {u : Value} {l : List SV} (h : u.cells.size = l.length ∧ ∀ (i : Nat) v c, u.cells[i]? = some v → l[i]? = some c → RelV ρ G B n0 w S v c ∧ Plain v) :
    ∀ v ∈ u.cells.toList, Plain v := by
  intro v hv
  obtain ⟨i, hi⟩ := List.getElem?_of_mem hv
  have h1 := (List.getElem?_eq_some_iff.1 hi).1
  exact (h.2 i v (l[i]'(by rw [← h.1]; simpa using h1)) (by simpa using hi) (List.getElem?_eq_getElem _)).2

theorem store_sound (h : SInv ρ G B n0 w S) {t : TypeId} {v u : Value} {a x : SV} (hv : RelV ρ G B n0 w S v a) (hx : RelV ρ G B n0 w S u x) {e : Eff} (he : storeV P n0 S t a x = some e) :
    ∃ G' w', (Instr.storeAt t v u).run P w = .ok () w' ∧ SInv ρ G' B n0 w' (over e.wr S) ∧ Ext All B n0 ρ G w S ρ G' w' (over e.wr S) ∧ e.res = .dead := by
  unfold storeV at he
  by_cases hok : okT P t = false
  · rw [if_pos hok] at he; cases he
  · rw [if_neg hok] at he
    have hok : okT P t = true := by simpa using hok
    cases hv with
    | ptr k off b c ob hk hr hb =>
      simp only [hk] at he
      cases ob with
      | box cs =>
        simp only at he
        split at he
        · rename_i l hl
          split at he
          · rename_i hle
            simp only [Option.some.injEq] at he
            subst he
            obtain ⟨hll, hle⟩ := hle
            obtain ⟨b', c', cells, T, fr, o1, o2, o3, o4, o5⟩ := h.obj k _ hk
            rw [hb] at o1
            cases o1
            have hcr := cells_rel hx hl
            obtain ⟨w', r1, r2, r3, ⟨cells', r4, r5⟩, r6, r7, r8⟩ := run_storeAtV hok w b off u cells T fr o2 o3 (by rw [hcr.1, hll]) (by omega) (mem_plain hcr)
            have hsz : cells'.size = cells.size := by
              have := congrArg List.length r5
              simpa [putL_length] using this
            have hset := inv_set (G' := G) (w' := w') (S' := over [(k, Ob.box (putL cs off l))] S) (ob' := .box (putL cs off l)) h hk hb (fun j => over_one ..) r2 r3 r6 r7 r8
              (fun b' o hg => .inl hg) (fun b' o hg => hg) (fun o hg => (h.gobj k b c _ o hb hk hg).elim) (fun o v hg _ => (h.gobj k b c _ o hb hk hg).elim) ⟨rfl, rfl⟩
              (fun hxt => ⟨b, c, cells', T, fr, hb, r4, by rw [hsz]; exact o3, by rw [hsz, putL_length]; exact o4, fun i v s hi hs => by
                have hi' : cells'.toList[i]? = some v := by simpa using hi
                rw [r5, putL_get _ _ _ _ (by simp [hcr.1]; omega)] at hi'
                rw [putL_get _ _ _ _ (by omega)] at hs
                rw [show u.cells.toList.length = l.length by simpa using hcr.1] at hi'
                split at hi'
                · rename_i hc
                  rw [if_pos hc] at hs
                  have := hcr.2 (i - off) v s (by simpa using hi') hs
                  exact ⟨this.1.ext hxt, this.2⟩
                · rename_i hc
                  rw [if_neg hc] at hs
                  have := o5 i v s (by simpa using hi') hs
                  exact ⟨this.1.ext hxt, this.2⟩⟩)
            exact ⟨G, w', r1, hset.1, hset.2, rfl⟩
          · cases he
        · cases he
      | _ => simp at he
    | eptr k len i r v m z lim xs hk hi hle hv =>
      simp only at he
      split at he
      · rename_i m' y δ hf
        obtain ⟨G1, a1, a2, a3⟩ := freezeN_sound h hx hf
        split at he
        · rename_i m1 z1 lim1 xs1 hk1
          split at he
          · rename_i hlen
            obtain ⟨hlen, hlim⟩ := hlen
            split at he
            · rename_i old hold
              split at he
              · rename_i hyl
                obtain ⟨hyl, hrl⟩ := hyl
                split at he
                · rename_i new hnew
                  simp only [Option.some.injEq] at he
                  subst he
                  obtain ⟨b, c, f, hb, rfl⟩ : ∃ b c f, ρ k = some (b, c, f) ∧ v = .pointer (some ⟨b, f + i * z1 + r, none⟩) := by
                    have := (RelV.eptr (ρ := ρ) (G := G) (B := B) (n0 := n0) (w := w) (S := S) k len i r v m z lim xs hk hi hle hv).ext a2
                    cases this with
                    | eptr _ _ _ _ _ m2 z2 lim2 xs2 hk2 hi2 hle2 hv2 =>
                      rw [hk1] at hk2
                      cases hk2
                      exact hv2 hlen.symm
                  obtain ⟨o1, o2, o3⟩ := a1.obj k _ hk1
                  obtain ⟨o4, o5, cells, T, fr, vs, o6, o7, o8, o9, o10⟩ := o3 b c f hb
                  obtain ⟨p1, p2, p3⟩ := o10 i old hold
                  have hil : i < xs1.length := (List.getElem?_eq_some_iff.1 hold).1
                  have hsz := a3.size
                  have hp2 := p2.size
                  have hbound : f + i * z1 + z1 ≤ cells.size := by
                    have := Nat.mul_le_mul_right z1 (show i + 1 ≤ c by omega)
                    rw [Nat.succ_mul] at this
                    omega
                  have hpl : ∀ v ∈ u.cells.toList, Plain v := fun v hv' => by
                    obtain ⟨j, hj⟩ := List.getElem?_of_mem hv'
                    have h1 := (List.getElem?_eq_some_iff.1 hj).1
                    obtain ⟨q1, q2⟩ := a3.cell j v (y.cells[j]'(by rw [← hsz]; simpa using h1)) (by simpa using hj) (List.getElem?_eq_getElem _)
                    exact q1.plain q2
                  obtain ⟨w', r1, r2, r3, ⟨cells', r4, r5⟩, r6, r7, r8⟩ := run_storeAtV hok w b (f + i * z1 + r) u cells T fr o6 o7 (by rw [hsz, hyl]) (by omega) hpl
                  have hul : u.cells.toList.length = y.cells.length := by simpa using hsz
                  have hget : ∀ j, cells'[j]? = if f + i * z1 + r ≤ j ∧ j < f + i * z1 + r + y.cells.length then u.cells[j - (f + i * z1 + r)]? else cells[j]? := fun j => by
                    have h0 : cells'.toList[j]? = (putL cells.toList (f + i * z1 + r) u.cells.toList)[j]? := by rw [r5]
                    rw [putL_get _ _ _ _ (by simp; omega), hul] at h0
                    simpa using h0
                  have hcsz : cells'.size = cells.size := by
                    have := congrArg List.length r5
                    simpa [putL_length] using this
                  let nv : Value := if old.isAgg then .agg (putL (vs i).cells.toList r u.cells.toList).toArray else (putL (vs i).cells.toList r u.cells.toList).headD undef
                  have hS : ∀ j, over ((k, Ob.row (m1 && (m' || y.scalar)) z1 lim1 (xs1.set i new)) :: δ) S j = if k = j then some (Ob.row (m1 && (m' || y.scalar)) z1 lim1 (xs1.set i new)) else over δ S j := fun j => over_cons ..
                  have hlimz : lim1 * z1 ≤ i * z1 := Nat.mul_le_mul_right z1 hlim
                  have hset := inv_set (G' := G1) (w' := w') (S' := over ((k, Ob.row (m1 && (m' || y.scalar)) z1 lim1 (xs1.set i new)) :: δ) S) (ob' := .row (m1 && (m' || y.scalar)) z1 lim1 (xs1.set i new)) a1 hk1 hb hS r2 r3 r6 r7 r8
                    (fun b' o hg => .inl hg) (fun b' o hg => hg) (fun o hg => by have := a1.gobj k b (c, f) _ o hb hk1 hg; simpa only [prot] using this)
                    (fun o v hg hv' => by
                      have := a1.gobj k b (c, f) _ o hb hk1 hg
                      simp only [prot] at this
                      rw [cell_of r4, hget, if_neg (by omega)]
                      rw [cell_of o6] at hv'
                      exact hv')
                    ⟨fun hm => by simp at hm; exact hm.1, fun _ => rfl, Nat.le_refl _, by rw [List.take_set_of_le hlim], .inl ⟨by simp, rfl⟩⟩
                    (fun hxt => ⟨by simpa using o1, fun hn => absurd (hb.symm.trans hn) (by simp), fun b' c' f' hb' => by
                      cases hb.symm.trans hb'
                      refine ⟨o4, by simpa using o5, cells', T, fr, fun j => if j = i then nv else vs j, r4, by rw [hcsz]; exact o7, by rw [hcsz]; exact o8, o9, fun j x' hj => ?_⟩
                      by_cases hji : j = i
                      · subst hji
                        rw [List.getElem?_set_self hil] at hj
                        cases hj
                        simp only [if_true]
                        have hcell : ∀ (q : Nat) v c, (putL (vs j).cells.toList r u.cells.toList)[q]? = some v → (putL old.cells r y.cells)[q]? = some c → RepV (Gm G1 B (m1 && (m' || y.scalar))) w v c ∧ c.isAgg = false := fun q v c hq hc => by
                          rw [putL_get _ _ _ _ (by simp; omega), hul] at hq
                          rw [putL_get _ _ _ _ (by omega)] at hc
                          split at hq
                          · rename_i hin
                            rw [if_pos hin] at hc
                            obtain ⟨q1, q2⟩ := a3.flag.cell (q - r) v c (by simpa using hq) hc
                            exact ⟨q1.weaken (Gm.le fun hm => by simp only [Bool.and_eq_true] at hm; exact hm.2), q2⟩
                          · rename_i hin
                            rw [if_neg hin] at hc
                            obtain ⟨q1, q2⟩ := p2.cell q v c (by simpa using hq) hc
                            exact ⟨q1.weaken (Gm.le fun hm => by simp only [Bool.and_eq_true] at hm; exact hm.1), q2⟩
                        obtain ⟨s1, s2, s3⟩ := rep_ofCells' hnew (by rw [putL_length, putL_length]; simp; omega) hcell
                        refine ⟨by rw [s3, putL_length]; exact p1, s1.mono (hxt.gm _), fun q v hq => ?_⟩
                        have hq' : nv.cells.toList[q]? = some v := by simpa using hq
                        rw [s2, putL_get _ _ _ _ (by simp; omega), hul] at hq'
                        rw [hget]
                        split at hq'
                        · rename_i hin
                          rw [if_pos (by omega), show f + j * z1 + q - (f + j * z1 + r) = q - r by omega]
                          simpa using hq'
                        · rename_i hin
                          rw [if_neg (by omega)]
                          exact p3 q v (by simpa using hq')
                      · rw [List.getElem?_set_ne (Ne.symm hji)] at hj
                        simp only [hji, if_false]
                        obtain ⟨q1, q2, q3⟩ := o10 j x' hj
                        refine ⟨q1, (q2.weaken (Gm.le fun hm => by simp at hm; exact hm.1)).mono (hxt.gm _), fun q v hq => ?_⟩
                        have hql : q < z1 := by
                          have := (Array.getElem?_eq_some_iff.1 hq).1
                          have := q2.size
                          omega
                        rw [hget, if_neg ?_]
                        · exact q3 q v hq
                        · rintro ⟨h1, h2⟩
                          rcases Nat.lt_or_gt_of_ne hji with h3 | h3
                          · have := idx_lt h3 hql
                            omega
                          · have := idx_lt (z := z1) h3 (show z1 - 1 < z1 by omega)
                            have : i * z1 + (z1 - 1) + 1 = i * z1 + z1 := by omega
                            have h4 := Nat.mul_le_mul_right z1 (show i + 1 ≤ j by omega)
                            rw [Nat.succ_mul] at h4
                            omega⟩)
                  exact ⟨G1, w', r1, hset.1, a2.trans hset.2, rfl⟩
                · cases he
              · cases he
            · cases he
          · cases he
        · cases he
      · cases he
    | _ => simp at he

end
end Go.Proofs.YticdhmcbooabaaaDoor.V
