/- V4: what makes memory: variables, slices, maps, iterators. No claim. -/
import Derived.Test.YticdhmcbooabaaaDoor3
set_option linter.unusedVariables false
set_option linter.unusedSimpArgs false
namespace Go.Proofs.YticdhmcbooabaaaDoor.V
open Go

section
variable {B n0 : Nat} {ρ : Emb} {G : Cs} {w : World} {S : Look} {P : Program}

theorem constC_rep {v : Value} {x : PV} (h : constC v = some x) : (∀ (G : Cs) (w : World), RepV G w v x) ∧ Plain v ∧ x.isAgg = false ∧ (x.scalar = true ∨ x = .sl [] ∧ v = .slice none 0 0) := by
  unfold constC at h
  split at h <;> simp only [Option.some.injEq, reduceCtorEq] at h <;> subst h
  · exact ⟨fun _ _ => .int .., trivial, rfl, .inl rfl⟩
  · exact ⟨fun _ _ => .bool .., trivial, rfl, .inl rfl⟩
  · exact ⟨fun _ _ => .str .., trivial, rfl, .inl rfl⟩
  · exact ⟨fun _ _ => .nil .., trivial, rfl, .inr ⟨rfl, rfl⟩⟩
  · exact ⟨fun _ _ => .opq _ trivial, trivial, rfl, .inl rfl⟩
  · exact ⟨fun _ _ => .opq _ trivial, trivial, rfl, .inl rfl⟩
  · exact ⟨fun _ _ => .opq _ trivial, trivial, rfl, .inl rfl⟩
  · exact ⟨fun _ _ => .opq _ trivial, trivial, rfl, .inl rfl⟩

theorem mapOpt_get {α β : Type} {f : α → Option β} {l : List α} {r : List β} (h : mapOpt f l = some r) : r.length = l.length ∧ ∀ (i : Nat) a b, l[i]? = some a → r[i]? = some b → f a = some b := by
  induction l generalizing r with
  | nil => simp only [mapOpt, Option.some.injEq] at h; subst h; exact ⟨rfl, fun i a b h => by simp at h⟩
  | cons a l ih =>
    simp only [mapOpt] at h
    split at h
    · rename_i b hb
      split at h
      · rename_i r' hr
        simp only [Option.some.injEq] at h
        subst h
        obtain ⟨h1, h2⟩ := ih hr
        refine ⟨by simp [h1], fun i a' b' ha hb' => ?_⟩
        cases i with
        | zero => simp at ha hb'; subst ha hb'; exact hb
        | succ i => exact h2 i a' b' (by simpa using ha) (by simpa using hb')
      · cases h
    · cases h

theorem constV_rep {v : Value} {x : PV} (h : constV v = some x) (G : Cs) (w : World) : RepV G w v x := by
  unfold constV at h
  split at h
  · rename_i cs
    split at h
    · rename_i l hl
      simp only [Option.some.injEq] at h
      subst h
      obtain ⟨h1, h2⟩ := mapOpt_get hl
      refine .agg _ _ (by simpa using h1.symm) (fun i v c hv hc => (constC_rep (h2 i v c (by simpa using hv) hc)).1 G w) fun c hm => ?_
      obtain ⟨i, hi⟩ := List.getElem?_of_mem hm
      have hlt : i < cs.toList.length := by rw [← h1]; exact (List.getElem?_eq_some_iff.1 hi).1
      exact (constC_rep (h2 i _ c (List.getElem?_eq_getElem hlt) hi)).2.2.1
    · cases h
  · exact (constC_rep h).1 G w

theorem zeros_sound {t : TypeId} {l : List PV} (h : zerosOf P t = some l) (w : World) : ∃ v, (zeroValue t).run P w = .ok v w ∧ v.cells.size = l.length ∧
    ∀ (i : Nat) u x, v.cells[i]? = some u → l[i]? = some x → constC u = some x := by
  unfold zerosOf at h
  split at h
  · rename_i v hv
    cases hi : P.info? t with
    | none => simp [hi] at hv
    | some i =>
      simp [hi] at hv
      obtain ⟨h1, h2⟩ := mapOpt_get h
      refine ⟨v, ?_, by simpa using h1.symm, fun i u x hu hx => h2 i u x (by simpa using hu) hx⟩
      simp [zeroValue, run_typeInfo w hi, hv]
  · cases h

theorem fresh_get {n : Nat} : ∀ {k : Nat}, freshKeys S k n = true → ∀ j, k ≤ j → j < k + n → S j = none := by
  induction n with
  | zero => intro k _ j h1 h2; omega
  | succ n ih =>
    intro k h j h1 h2
    simp only [freshKeys, Bool.and_eq_true, Option.isNone_iff_eq_none] at h
    by_cases e : j = k
    · subst e; exact h.1
    · exact ih h.2 j (by omega) (by omega)

theorem newCells_nil (k : Nat) (r : List PV) : newCells k (.sl [] :: r) = (.row k 0 :: (newCells (k + 1) r).1, (k, .row true 0 0 []) :: (newCells (k + 1) r).2) := rfl
theorem newCells_cons (k : Nat) (x : PV) (r : List PV) (h : x ≠ .sl []) : newCells k (x :: r) = (.pure true x :: (newCells k r).1, (newCells k r).2) := by
  cases x with
  | sl l => cases l with
    | nil => exact absurd rfl h
    | cons a l => rfl
  | _ => rfl

theorem nils_nil (r : List PV) : nils (.sl [] :: r) = nils r + 1 := rfl
theorem nils_cons {x : PV} (r : List PV) (h : x ≠ .sl []) : nils (x :: r) = nils r := by
  cases x with
  | sl xs => cases xs with
    | nil => exact absurd rfl h
    | cons => rfl
  | _ => rfl

theorem newCells_keys {l : List PV} : ∀ {k j : Nat}, (get (newCells k l).2 j).isSome = true → k ≤ j ∧ j < k + nils l := by
  induction l with
  | nil => intro k j h; simp [newCells, get] at h
  | cons x r ih =>
    intro k j h
    by_cases hx : x = .sl []
    · subst hx
      rw [newCells_nil] at h
      simp only [get] at h
      rw [nils_nil]
      split at h
      · omega
      · have := ih h; omega
    · rw [newCells_cons k x r hx] at h
      rw [nils_cons r hx]
      have := ih h; omega

theorem newCells_sound {l : List PV} : ∀ {k : Nat} {S : Look}, SInv ρ G B n0 w S → n0 ≤ k → (∀ j, k ≤ j → j < k + nils l → S j = none) →
    ∀ {vs : List Value}, vs.length = l.length → (∀ (i : Nat) u x, vs[i]? = some u → l[i]? = some x → constC u = some x) →
    SInv ρ G B n0 w (over (newCells k l).2 S) ∧ Ext All B n0 ρ G w S ρ G w (over (newCells k l).2 S) ∧ (newCells k l).1.length = l.length ∧
      ∀ (i : Nat) u s, vs[i]? = some u → (newCells k l).1[i]? = some s → RelV ρ G B n0 w (over (newCells k l).2 S) u s ∧ Plain u := by
  induction l with
  | nil => intro k S h hn hS vs hl hv; simp only [newCells, over_nil]; exact ⟨h, Ext.refl .., rfl, fun i u s hu hs => by simp at hs⟩
  | cons x r ih =>
    intro k S h hn hS vs hl hv
    cases vs with
    | nil => simp at hl
    | cons v vs =>
      have hc := hv 0 v x rfl rfl
      obtain ⟨c1, c2, c3, c4⟩ := constC_rep hc
      have step : ∀ k', k ≤ k' → k' + nils r ≤ k + nils (x :: r) → _ := fun k' h1 h2 => @ih k' S h (by omega) (fun j h3 h4 => hS j (by omega) (by omega)) vs (by simpa using hl) (fun i u x hu hx => hv (i + 1) u x (by simpa using hu) (by simpa using hx))
      by_cases hx : x = .sl []
      · subst hx
        rw [newCells_nil]
        obtain ⟨a1, a2, a3, a4⟩ := step (k + 1) (by omega) (by rw [nils_nil]; omega)
        have hk : over (newCells (k + 1) r).2 S k = none := by
          have : get (newCells (k + 1) r).2 k = none := by
            cases hg : get (newCells (k + 1) r).2 k with
            | none => rfl
            | some ob => have := newCells_keys (l := r) (k := k + 1) (j := k) (by simp [hg]); omega
          simp [over, this, hS k (Nat.le_refl _) (by rw [nils_nil]; omega)]
        have hnew := inv_new (ρ' := ρ) (p := none) (ob := .row true 0 0 []) (w' := w) (S' := over ((k, Ob.row true 0 0 []) :: (newCells (k + 1) r).2) S) a1 (Grew.refl w) hk (fun j => over_cons ..)
          (fun j => by
            split
            · rename_i e; subst e; exact a1.dom k hk
            · rfl) (fun b c h => by cases h) (fun _ => ⟨Nat.le_refl _, fun _ => .inl rfl, fun b c f hb => by rw [a1.dom k hk] at hb; cases hb⟩)
        refine ⟨hnew.1, a2.trans hnew.2, by simp [a3], fun i u s hu hs => ?_⟩
        cases i with
        | zero =>
          simp at hu hs
          subst hu hs
          refine ⟨?_, c2⟩
          rcases c4 with c4 | ⟨_, rfl⟩
          · simp [PV.scalar] at c4
          · exact .row k 0 none 0 true 0 0 [] (by rw [over_cons, if_pos rfl]) (.inl ⟨rfl, by rw [a1.dom k hk]; exact ⟨rfl, rfl, rfl⟩⟩)
        | succ i =>
          obtain ⟨b1, b2⟩ := a4 i u s (by simpa using hu) (by simpa using hs)
          exact ⟨b1.ext hnew.2, b2⟩
      · rw [newCells_cons k x r hx]
        obtain ⟨a1, a2, a3, a4⟩ := step k (by omega) (by rw [nils_cons r hx]; omega)
        refine ⟨a1, a2, by simp [a3], fun i u s hu hs => ?_⟩
        cases i with
        | zero =>
          simp at hu hs
          subst hu hs
          exact ⟨.pure _ _ _ (c1 _ _), c2⟩
        | succ i => exact a4 i u s (by simpa using hu) (by simpa using hs)

/-- A new box. -/
theorem new_box (h : SInv ρ G B n0 w S) {k : Nat} (hk : S k = none) (hn : n0 ≤ k) {cells : Array Value} {cs : List SV} (T : TypeId) (hl : cells.size = cs.length)
    (hc : ∀ (i : Nat) u s, cells[i]? = some u → cs[i]? = some s → RelV ρ G B n0 w S u s ∧ Plain u) (S' : Look) (hS : ∀ j, S' j = if k = j then some (.box cs) else S j) :
    ∃ ρ', SInv ρ' G B n0 { w with heap := w.heap.push (.cells cells T) } S' ∧ Ext All B n0 ρ G w S ρ' G { w with heap := w.heap.push (.cells cells T) } S' ∧ ρ' k = some (w.heap.size, 0, 0) := by
  refine ⟨fun j => if k = j then some (w.heap.size, 0, 0) else ρ j, ?_⟩
  have hnew := inv_new (ρ' := fun j => if k = j then some (w.heap.size, 0, 0) else ρ j) (p := some (w.heap.size, 0, 0)) (ob := .box cs) (w' := { w with heap := w.heap.push (.cells cells T) }) (S' := S') h
    (.push rfl rfl rfl rfl) hk hS (fun j => rfl) (fun b c hb => by cases hb; simp)
    (fun hx => ⟨w.heap.size, (0, 0), cells, T, (0, 0), by simp, by simp, .inl rfl, hl, fun i v s hv hs => ⟨(hc i v s hv hs).1.ext hx, (hc i v s hv hs).2⟩⟩)
  exact ⟨hnew.1, hnew.2, by simp⟩

/-- A new row. -/
theorem new_row (h : SInv ρ G B n0 w S) {k : Nat} (hk : S k = none) (hn : n0 ≤ k) {cells : Array Value} {xs : List PV} {vs : Nat → Value} {m : Bool} {z cap : Nat} (T : TypeId) (fr : Nat × Nat) (hfr : Free fr cells.size)
    (hz : 0 < z) (hcap : xs.length ≤ cap) (hsz : cells.size = cap * z)
    (hc : ∀ (j : Nat) x, xs[j]? = some x → x.cells.length = z ∧ RepV (Gm G B m) w (vs j) x ∧ ∀ (i : Nat) v, (vs j).cells[i]? = some v → cells[j * z + i]? = some v)
    (w' : World) (hw : Grew w w') (hh : w'.heap[w.heap.size]? = some (.cells cells T fr)) (hlt : w.heap.size < w'.heap.size) (S' : Look) (hS : ∀ j, S' j = if k = j then some (.row m z 0 xs) else S j) :
    ∃ ρ', SInv ρ' G B n0 w' S' ∧ Ext All B n0 ρ G w S ρ' G w' S' ∧ RelV ρ' G B n0 w' S' (.slice (some ⟨w.heap.size, 0, none⟩) xs.length cap) (.row k xs.length) := by
  have hnew := inv_new (ρ' := fun j => if k = j then some (w.heap.size, cap, 0) else ρ j) (p := some (w.heap.size, cap, 0)) (ob := .row m z 0 xs) (w' := w') (S' := S') h
    hw hk hS (fun j => rfl) (fun b c hb => by cases hb; exact ⟨Nat.le_refl _, hlt⟩)
    (fun hx => ⟨Nat.zero_le _, fun hn => by simp at hn, fun b c f hb => by
      simp at hb
      obtain ⟨rfl, rfl, rfl⟩ := hb
      exact ⟨hz, hcap, cells, T, fr, vs, hh, hfr, by omega, fun o _ ho => by omega, fun j x hj => ⟨(hc j x hj).1, (hc j x hj).2.1.mono (hx.gm m), fun i v hv => by rw [Nat.zero_add]; exact (hc j x hj).2.2 i v hv⟩⟩⟩)
  exact ⟨_, hnew.1, hnew.2, .row k _ _ cap m z 0 xs (by rw [hS, if_pos rfl]) (.inl ⟨rfl, by simp [Tie]⟩)⟩

/-- What an operation comes to. -/
def Comes1 (P : Program) (B n0 : Nat) (ρ : Emb) (G : Cs) (w : World) (S : Look) (s : Sem Value) (e : Eff) : Prop :=
  ∃ u ρ' G' w', s.run P w = .ok u w' ∧ SInv ρ' G' B n0 w' (over e.wr S) ∧ Ext All B n0 ρ G w S ρ' G' w' (over e.wr S) ∧ RelV ρ' G' B n0 w' (over e.wr S) u e.res

/-- One that leaves all as it is. -/
theorem Comes1.still (h : SInv ρ G B n0 w S) {s : Sem Value} {e : Eff} {u : Value} (hr : s.run P w = .ok u w) (he : e.wr = []) (hv : RelV ρ G B n0 w S u e.res) : Comes1 P B n0 ρ G w S s e :=
  ⟨u, ρ, G, w, hr, by rw [he, over_nil]; exact h, by rw [he, over_nil]; exact Ext.refl .., by rw [he, over_nil]; exact hv⟩

theorem alloc_sound (h : SInv ρ G B n0 w S) {t : TypeId} {nk : Nat} (hn : n0 ≤ nk) {e : Eff} (he : allocV P n0 nk S t = some e) : Comes1 P B n0 ρ G w S (Instr.alloc t true (.tuple #[])) e := by
  unfold allocV at he
  split at he
  · rename_i l hl
    split at he
    · rename_i hf
      simp only [Bool.and_eq_true, decide_eq_true_eq] at hf
      simp only [Option.some.injEq] at he
      subst he
      obtain ⟨v, z1, z2, z3⟩ := zeros_sound hl w
      have hfr := fresh_get hf.1
      obtain ⟨a1, a2, a3, a4⟩ := newCells_sound (l := l) h (by omega : n0 ≤ nk + 1) (fun j h1 h2 => hfr j (by omega) (by omega)) (vs := v.cells.toList) (by simpa using z2) (fun i u x hu hx => z3 i u x (by simpa using hu) hx)
      have hk : over (newCells (nk + 1) l).2 S nk = none := by
        have : get (newCells (nk + 1) l).2 nk = none := by
          cases hg : get (newCells (nk + 1) l).2 nk with
          | none => rfl
          | some ob => have := newCells_keys (l := l) (k := nk + 1) (j := nk) (by simp [hg]); omega
        simp [over, this, hfr nk (Nat.le_refl _) (by omega)]
      obtain ⟨ρ', b1, b2, b3⟩ := new_box a1 hk hn (cells := v.cells) (cs := (newCells (nk + 1) l).1) t (by rw [z2, a3]) (fun i u s hu hs => a4 i u s (by simpa using hu) hs)
        (over ((nk, Ob.box (newCells (nk + 1) l).1) :: (newCells (nk + 1) l).2) S) (fun j => over_cons ..)
      refine ⟨_, ρ', G, _, ?_, b1, a2.trans b2, .ptr nk 0 w.heap.size (0, 0) (.box (newCells (nk + 1) l).1) (by rw [over_cons, if_pos rfl]) rfl b3⟩
      simp [Instr.alloc, z1, newVar, newRow]
    · cases he
  · cases he

theorem box_sound (h : SInv ρ G B n0 w S) {t : TypeId} {nk : Nat} (hn : n0 ≤ nk) {v : Value} {x : SV} (hv : RelV ρ G B n0 w S v x) {e : Eff} (he : boxV nk S x = some e) : Comes1 P B n0 ρ G w S (Instr.box t v) e := by
  unfold boxV at he
  split at he
  · rename_i l hl
    split at he
    · rename_i hk
      simp only [Option.some.injEq] at he
      subst he
      obtain ⟨c1, c2⟩ := cells_rel hv hl
      obtain ⟨ρ', b1, b2, b3⟩ := new_box h (by simpa using hk) hn (cells := v.cells) (cs := l) t c1 c2 (over [(nk, Ob.box l)] S) (fun j => over_one ..)
      exact ⟨_, ρ', G, _, rfl, b1, b2, .ptr nk 0 w.heap.size (0, 0) (.box l) (by rw [over_one, if_pos rfl]) rfl b3⟩
    · cases he
  · cases he

theorem gather_sound (h : SInv ρ G B n0 w S) {vs : List Value} {cs : List SV} (hl : vs.length = cs.length) (hc : ∀ (i : Nat) v s, vs[i]? = some v → cs[i]? = some s → RelV ρ G B n0 w S v s ∧ Plain v) :
    ∃ G', SInv ρ G' B n0 w (over (gather n0 S cs).2.1 S) ∧ Ext All B n0 ρ G w S ρ G' w (over (gather n0 S cs).2.1 S) ∧ RelV ρ G' B n0 w (over (gather n0 S cs).2.1 S) (.agg vs.toArray) (gather n0 S cs).1 := by
  unfold gather
  split
  · rename_i m l δ hf
    have hf := kept_some hf
    obtain ⟨b0, G', b1, b2, b3⟩ := freezes_sound h h (vs := vs) hl (fun i v s hi hs => (hc i v s hi hs).1) hf
    refine ⟨G', b1, b2, .pure _ _ _ (.agg _ _ (by simp [b0]; omega) (fun i v x hi hx => b3 i v x (by simpa using hi) hx) fun c hm => ?_)⟩
    obtain ⟨i, hi⟩ := List.getElem?_of_mem hm
    have hlt : i < vs.length := by
      have := (List.getElem?_eq_some_iff.1 hi).1
      omega
    exact (b3 i _ c (List.getElem?_eq_getElem hlt) hi).nagg (hc i _ _ (List.getElem?_eq_getElem hlt) (List.getElem?_eq_getElem (by omega))).2
  · refine ⟨G, by rw [over_nil]; exact h, by rw [over_nil]; exact Ext.refl .., ?_⟩
    rw [over_nil]
    refine .agg _ _ (by simpa using hl) (fun i v s hi hs => (hc i v s (by simpa using hi) hs).1) fun v hm => ?_
    obtain ⟨i, hi⟩ := List.getElem?_of_mem (Array.mem_toList_iff.2 hm)
    have hlt : i < cs.length := by
      have := (List.getElem?_eq_some_iff.1 hi).1
      simp at this
      omega
    exact (hc i v _ (by simpa using hi) (List.getElem?_eq_getElem hlt)).2

theorem fill_list (l : List Value) : ∀ (k off : Nat) (c : Array Value), ((l.zipIdx k).foldl (fun (cs : Array Value) (p : Value × Nat) => cs.setIfInBounds (off + p.2) p.1) c).toList = putL c.toList (off + k) l := by
  induction l with
  | nil => intro k off c; rfl
  | cons v r ih =>
    intro k off c
    simp only [List.zipIdx_cons, List.foldl_cons, putL]
    rw [ih, Array.toList_setIfInBounds]
    rfl

theorem fill_one (v : Value) (off : Nat) (c : Array Value) : (v.cells.zipIdx.foldl (fun (cs : Array Value) (p : Value × Nat) => cs.setIfInBounds (off + p.2) p.1) c).toList = putL c.toList off v.cells.toList := by
  rw [← Array.foldl_toList, Array.toList_zipIdx, fill_list]
  rfl

theorem fill_sound {place : Nat → Option (Nat × Nat)} {ss : List (Nat × SV)} : ∀ {ps : List (Nat × Value)} {c : Array Value} {cs l : List SV}, ps.length = ss.length →
    (∀ (i : Nat) p s, ps[i]? = some p → ss[i]? = some s → p.1 = s.1 ∧ RelV ρ G B n0 w S p.2 s.2) → c.size = cs.length →
    (∀ (i : Nat) v s, c[i]? = some v → cs[i]? = some s → RelV ρ G B n0 w S v s ∧ Plain v) → fillV place cs ss = some l →
    ∃ c', Instr.fill place c ps = some c' ∧ c'.size = l.length ∧ ∀ (i : Nat) v s, c'[i]? = some v → l[i]? = some s → RelV ρ G B n0 w S v s ∧ Plain v := by
  induction ss with
  | nil =>
    intro ps c cs l hl hp hc hr hf
    simp only [fillV, Option.some.injEq] at hf
    subst hf
    have : ps = [] := List.eq_nil_of_length_eq_zero (by simpa using hl)
    subst this
    exact ⟨c, rfl, hc, hr⟩
  | cons s r ih =>
    intro ps c cs l hl hp hc hr hf
    cases ps with
    | nil => simp at hl
    | cons p ps =>
      obtain ⟨i, v⟩ := s
      obtain ⟨i', u⟩ := p
      obtain ⟨e1, e2⟩ := hp 0 (i', u) (i, v) rfl rfl
      simp only at e1 e2
      subst e1
      simp only [fillV] at hf
      split at hf
      · rename_i off n l' hpl hcl
        split at hf
        · rename_i hle
          obtain ⟨q1, q2⟩ := cells_rel e2 hcl
          have hsz : (putL c.toList off u.cells.toList).length = c.size := by rw [putL_length]; simp
          obtain ⟨c', d1, d2, d3⟩ := ih (ps := ps) (c := u.cells.zipIdx.foldl (fun (cs : Array Value) (p : Value × Nat) => cs.setIfInBounds (off + p.2) p.1) c) (cs := putL cs off l') (by simpa using hl)
            (fun j p s hj hs => hp (j + 1) p s (by simpa using hj) (by simpa using hs))
            (by rw [← Array.length_toList, fill_one, putL_length, putL_length]; simpa using hc)
            (fun j v s hj hs => by
              have hj' : (putL c.toList off u.cells.toList)[j]? = some v := by rw [← fill_one]; simpa using hj
              rw [putL_get _ _ _ _ (by simp; omega)] at hj'
              rw [putL_get _ _ _ _ (by omega)] at hs
              rw [show u.cells.toList.length = l'.length by simpa using q1] at hj'
              split at hj'
              · rename_i hin
                rw [if_pos hin] at hs
                exact q2 (j - off) v s (by simpa using hj') hs
              · rename_i hin
                rw [if_neg hin] at hs
                exact hr j v s (by simpa using hj') hs) hf
          refine ⟨c', ?_, d2, d3⟩
          simp only [Instr.fill, hpl]
          rw [if_neg (by simp only [Bool.or_eq_true, decide_eq_true_eq, bne_iff_ne, ne_eq]; omega)]
          exact d1
        · cases hf
      · cases hf

theorem run_places {fs : Array Field} (h : fs.toList.all (fun f => decide (0 < P.cellsOf f.type)) = true) (w : World) :
    (fs.mapM fun f => do pure (f.offset, ← sizeOf f.type) : Sem (Array (Nat × Nat))).run P w = .ok (fs.map fun f => (f.offset, P.cellsOf f.type)) w := by
  have key : ∀ (l : List Field) (w : World), (∀ f ∈ l, 0 < P.cellsOf f.type) →
      (l.mapM fun f => do pure (f.offset, ← sizeOf f.type) : Sem (List (Nat × Nat))).run P w = .ok (l.map fun f => (f.offset, P.cellsOf f.type)) w := by
    intro l
    induction l with
    | nil => intro w _; rfl
    | cons f r ih =>
      intro w hp
      simp only [List.mapM_cons, Sem.run_bind, run_sizeV (hp f (by simp)), Result.andThen_ok, Sem.run_pure, ih w (fun g hg => hp g (by simp [hg])), List.map_cons]
  rw [Array.mapM_eq_mapM_toList, Sem.run_map, key fs.toList w (fun f hf => by simpa using List.all_eq_true.1 h f hf)]
  simp only [Result.andThen_ok]
  congr 1
  apply Array.ext'
  simp

theorem asNil_rep {v : Value} {x : PV} (h : constC v = some x) (G : Cs) (w : World) : RepV G w v (asNil x) := by
  obtain ⟨c1, c2, c3, c4⟩ := constC_rep h
  rcases c4 with c4 | ⟨rfl, rfl⟩
  · have : asNil x = x := by cases x <;> simp [PV.scalar] at c4 <;> rfl
    rw [this]
    exact c1 G w
  · exact .opq _ trivial

theorem build_sound (h : SInv ρ G B n0 w S) {t : TypeId} {ps : Array (Nat × Value)} {ss : List (Nat × SV)} (hl : ps.size = ss.length)
    (hp : ∀ (i : Nat) p s, ps[i]? = some p → ss[i]? = some s → p.1 = s.1 ∧ RelV ρ G B n0 w S p.2 s.2) {e : Eff} (he : buildV P n0 S t ss = some e) :
    Comes1 P B n0 ρ G w S (Instr.build t ps) e := by
  unfold buildV at he
  split at he
  · rename_i z place hz hplace
    obtain ⟨v, z1, z2, z3⟩ := zeros_sound hz w
    have hzero : v.cells.size = (z.map fun x => SV.pure true (asNil x)).length ∧ ∀ (i : Nat) u s, v.cells[i]? = some u → (z.map fun x => SV.pure true (asNil x))[i]? = some s → RelV ρ G B n0 w S u s ∧ Plain u := by
      refine ⟨by simpa using z2, fun i u s hu hs => ?_⟩
      simp only [List.getElem?_map, Option.map_eq_some_iff] at hs
      obtain ⟨x, hx, rfl⟩ := hs
      have := constC_rep (z3 i u x hu hx)
      exact ⟨.pure _ _ _ (asNil_rep (z3 i u x hu hx) _ _), this.2.1⟩
    split at he
    · cases he
    · rename_i l hf
      simp only [Option.some.injEq] at he
      subst he
      obtain ⟨c', f1, f2, f3⟩ := fill_sound (ps := ps.toList) (c := v.cells) (by simpa using hl) (fun i p s hi hs => hp i p s (by simpa using hi) hs) hzero.1 hzero.2 hf
      obtain ⟨G', g1, g2, g3⟩ := gather_sound h (vs := c'.toList) (by simpa using f2) (fun i v s hi hs => f3 i v s (by simpa using hi) hs)
      refine ⟨.agg c', ρ, G', w, ?_, g1, g2, by simpa using g3⟩
      unfold Instr.build
      simp only [Sem.run_bind, z1, Result.andThen_ok]
      unfold placeV at hplace
      split at hplace
      · rename_i fields hu
        split at hplace
        · rename_i hall
          simp only [Option.some.injEq] at hplace
          simp only [run_underlying hu, Result.andThen_ok, Sem.run_bind, run_places hall]
          have hpe : (fun x => (Array.map (fun f => (f.offset, P.cellsOf f.type)) fields)[x]?) = place := by
            rw [← hplace]
            funext i
            simp only [Array.getElem?_map]
            cases fields[i]? <;> rfl
          rw [hpe, f1]
          rfl
        · cases hplace
      · rename_i n el hu
        split at hplace
        · rename_i hpos
          simp only [Option.some.injEq] at hplace
          simp only [run_underlying hu, Result.andThen_ok, Sem.run_bind, run_sizeV hpos]
          rw [hplace, f1]
          rfl
        · cases hplace
      · cases hplace
  · cases he

/-! ### slices that are made -/
theorem zeroE_sound {t : TypeId} {y : PV} (h : zeroE P t = some y) (w : World) : ∃ v z, (zeroValue t).run P w = .ok v w ∧ v.cells.size = P.cellsOf t ∧ y.cells.length = P.cellsOf t ∧ y.isAgg = isAggT P t ∧
    (∀ (G : Cs) (w : World), RepV G w z y) ∧ z.cells = v.cells := by
  unfold zeroE at h
  split at h
  · rename_i l hl
    split at h
    · rename_i hlen
      replace hlen := hlen.1
      obtain ⟨v, z1, z2, z3⟩ := zeros_sound hl w
      have hc : ∀ (G : Cs) (w : World) (i : Nat) u c, v.cells.toList[i]? = some u → l[i]? = some c → RepV G w u c ∧ c.isAgg = false := fun G w i u c hu hc => by
        have := constC_rep (z3 i u c (by simpa using hu) hc)
        exact ⟨this.1 G w, this.2.2.1⟩
      have key := fun (G : Cs) (w : World) => rep_ofCells' (G := G) (w := w) (ag := isAggT P t) (cs := l) (y := y) (vs := v.cells.toList) h (by simpa using z2) (hc G w)
      refine ⟨v, _, z1, by omega, by rw [(key (fun _ _ => True) w).2.2]; exact hlen, ?_, fun G w => (key G w).1, ?_⟩
      · unfold ofCells at h
        cases hag : isAggT P t with
        | true => rw [hag] at h; simp at h; subst h; rfl
        | false =>
          rw [hag] at h
          simp only [Bool.false_eq_true, if_false] at h
          split at h
          · rename_i x
            simp at h
            subst h
            have hlt : 0 < v.cells.size := by rw [z2]; simp
            exact (constC_rep (z3 0 (v.cells[0]'hlt) x (Array.getElem?_eq_getElem hlt) rfl)).2.2.1
          · cases h
      · apply Array.ext'
        exact (key (fun _ _ => True) w).2.1
    · cases h
  · cases h

theorem zeroE_val {t : TypeId} {y : PV} (h : zeroE P t = some y) {v : Value} {w : World} (hv : (zeroValue t).run P w = .ok v w) (G : Cs) (w' : World) : RepV G w' v y := by
  obtain ⟨v', z, h1, h2, h3, h4, h5, h6⟩ := zeroE_sound h w
  rw [h1] at hv
  cases hv
  have hag : zeroAgg P t = isAggT P t ∧ ∃ v0, (P.info? t).bind (·.zero) = some v0 := by
    unfold zeroE zerosOf at h
    split at h
    · rename_i hl
      split at h
      · rename_i hc
        split at hl
        · rename_i v0 hv0
          exact ⟨hc.2, v0, hv0⟩
        · cases hl
      · cases h
    · cases h
  obtain ⟨hag, v0, hv0⟩ := hag
  have hv0' : v = v0 := by
    cases hi : P.info? t with
    | none => simp [hi] at hv0
    | some i =>
      simp [hi] at hv0
      simp [zeroValue, run_typeInfo w hi, hv0] at h1
      exact h1.symm
  subst hv0'
  have hz := h5 G w'
  have hzv : z = v := by
    unfold zeroAgg at hag
    rw [hv0] at hag
    rw [← h4] at hag
    cases hy : y.isAgg with
    | true =>
      rw [hy] at hag
      cases v <;> simp at hag
      cases y <;> simp [PV.isAgg] at hy
      cases hz
      simp [Value.cells] at h6
      rw [h6]
    | false =>
      rw [hy] at hag
      have hp := (hz.plain hy).cells
      rw [hp] at h6
      cases v <;> simp_all [Value.cells]
  exact hzv ▸ hz

/-- The cells of a slice, and what they tell. -/
def RowIs (G : Cs) (B : Nat) (w : World) (m : Bool) (z : Nat) (cells : Array Value) (xs : List PV) (vs : Nat → Value) : Prop :=
  ∀ (j : Nat) x, xs[j]? = some x → x.cells.length = z ∧ RepV (Gm G B m) w (vs j) x ∧ ∀ (i : Nat) v, (vs j).cells[i]? = some v → cells[j * z + i]? = some v

theorem RowIs.mono {G' : Cs} {w' : World} {m m' : Bool} {z : Nat} {cells : Array Value} {xs : List PV} {vs : Nat → Value} (h : RowIs G B w m z cells xs vs) (hm : m' = true → m = true)
    (hG : ∀ b o, G b o → G' b o ∧ ∀ v, w.cell? ⟨b, o, none⟩ = some v → w'.cell? ⟨b, o, none⟩ = some v) : RowIs G' B w' m' z cells xs vs :=
  fun j x hj => ⟨(h j x hj).1, (h j x hj).2.1.mono fun b o hb => ⟨⟨(hG b o hb.1).1, fun e => hb.2 (hm e)⟩, (hG b o hb.1).2⟩, (h j x hj).2.2⟩

theorem elems_sound {ag : Bool} {z n : Nat} {ss : List (Nat × SV)} : ∀ {G : Cs} {S : Look} {ps : List (Nat × Value)} {c : Array Value} {xs l : List PV} {vs : Nat → Value} {m0 m : Bool} {δ : Store}, SInv ρ G B n0 w S →
    ps.length = ss.length → (∀ (i : Nat) p s, ps[i]? = some p → ss[i]? = some s → p.1 = s.1 ∧ RelV ρ G B n0 w S p.2 s.2) → xs.length = n → c.size = n * z → RowIs G B w m0 z c xs vs →
    elemsV n0 S ag z xs ss = some (m, l, δ) →
    ∃ c' vs' G', Instr.fill (fun i => some (i * z, z)) c ps = some c' ∧ c'.size = n * z ∧ l.length = n ∧ SInv ρ G' B n0 w (over δ S) ∧ Ext All B n0 ρ G w S ρ G' w (over δ S) ∧ RowIs G' B w (m0 && m) z c' l vs' := by
  induction ss with
  | nil =>
    intro G S ps c xs l vs m0 m δ h hl hp hx hc hr he
    simp only [elemsV, Option.some.injEq, Prod.mk.injEq] at he
    obtain ⟨rfl, rfl, rfl⟩ := he
    have : ps = [] := List.eq_nil_of_length_eq_zero (by simpa using hl)
    subst this
    exact ⟨c, vs, G, rfl, hc, hx, by rw [over_nil]; exact h, by rw [over_nil]; exact Ext.refl .., by simpa using hr⟩
  | cons s r ih =>
    intro G S ps c xs l vs m0 m δ h hl hp hx hc hr he
    cases ps with
    | nil => simp at hl
    | cons p ps =>
      obtain ⟨i, v⟩ := s
      obtain ⟨i', u⟩ := p
      obtain ⟨e1, e2⟩ := hp 0 (i', u) (i, v) rfl rfl
      simp only at e1 e2
      subst e1
      simp only [elemsV] at he
      split at he
      · rename_i m1 y δ1 hf
        split at he
        · rename_i hcond
          obtain ⟨hag, hyz, hix⟩ := hcond
          split at he
          · rename_i m2 l2 δ2 hrec
            simp only [Option.some.injEq, Prod.mk.injEq] at he
            obtain ⟨rfl, rfl, rfl⟩ := he
            obtain ⟨G1, a1, a2, a3⟩ := freezeN_sound h e2 hf
            have hsz := a3.size
            have hbound : i' * z + z ≤ n * z := by
              have := Nat.mul_le_mul_right z (show i' + 1 ≤ n by omega)
              rw [Nat.succ_mul] at this
              exact this
            have hfo := fill_one u (i' * z) c
            have hget : ∀ q, (u.cells.zipIdx.foldl (fun (cs : Array Value) (p : Value × Nat) => cs.setIfInBounds (i' * z + p.2) p.1) c)[q]? = if i' * z ≤ q ∧ q < i' * z + z then u.cells[q - i' * z]? else c[q]? := fun q => by
              rw [← Array.getElem?_toList, hfo, putL_get _ _ _ _ (by simp; omega)]
              rw [show u.cells.toList.length = z by simp; omega]
              simp
            obtain ⟨c', vs', G', b1, b2, b3, b4, b5, b6⟩ := ih (vs := fun j => if j = i' then u else vs j) (m0 := m0 && m1) (xs := xs.set i' y) (c := u.cells.zipIdx.foldl (fun (cs : Array Value) (p : Value × Nat) => cs.setIfInBounds (i' * z + p.2) p.1) c) (ps := ps) a1 (by simpa using hl)
              (fun j p s hj hs => ⟨(hp (j + 1) p s (by simpa using hj) (by simpa using hs)).1, ((hp (j + 1) p s (by simpa using hj) (by simpa using hs)).2).ext a2⟩)
              (by simpa using hx) (by rw [← Array.length_toList, hfo, putL_length]; simpa using hc)
              (fun j x hj => by
                by_cases hji : j = i'
                · subst hji
                  rw [List.getElem?_set_self hix] at hj
                  cases hj
                  simp only [if_true]
                  refine ⟨hyz, a3.weaken (Gm.le fun hm => by simp only [Bool.and_eq_true] at hm; exact hm.2), fun q v hq => ?_⟩
                  have hql : q < z := by
                    have := (Array.getElem?_eq_some_iff.1 hq).1
                    omega
                  rw [hget, if_pos (by omega), Nat.add_sub_cancel_left]
                  exact hq
                · rw [List.getElem?_set_ne (Ne.symm hji)] at hj
                  simp only [hji, if_false]
                  obtain ⟨q1, q2, q3⟩ := hr j x hj
                  refine ⟨q1, q2.mono fun b o hb => ⟨⟨(a2.g b o hb.1).1, fun e => hb.2 (by simp only [Bool.and_eq_true] at e; exact e.1)⟩, fun _ h => h⟩, fun q v hq => ?_⟩
                  have hql : q < z := by
                    have := (Array.getElem?_eq_some_iff.1 hq).1
                    have := q2.size
                    omega
                  rw [hget, if_neg ?_]
                  · exact q3 q v hq
                  · rintro ⟨h1, h2⟩
                    rcases Nat.lt_or_gt_of_ne hji with h3 | h3
                    · have := idx_lt h3 hql
                      omega
                    · have h4 := Nat.mul_le_mul_right z (show i' + 1 ≤ j by omega)
                      rw [Nat.succ_mul] at h4
                      omega) hrec
            refine ⟨c', vs', G', ?_, b2, b3, by rw [over_append]; exact b4, by rw [over_append]; exact a2.trans b5, by rw [← Bool.and_assoc]; exact b6⟩
            simp only [Instr.fill]
            rw [if_neg (by simp only [Bool.or_eq_true, decide_eq_true_eq, bne_iff_ne, ne_eq]; omega)]
            exact b1
          · cases he
        · cases he
      · cases he

theorem zero_cells {z n : Nat} (zero : Array Value) (hz : zero.size = z) (hpos : 0 < z) : ((Array.range (n * z)).map (zero[· % zero.size]!)).size = n * z ∧
    ∀ (j i : Nat) v, j < n → zero[i]? = some v → ((Array.range (n * z)).map (zero[· % zero.size]!))[j * z + i]? = some v := by
  refine ⟨by simp, fun j i v hj hi => ?_⟩
  have hlt : i < z := by rw [← hz]; exact (Array.getElem?_eq_some_iff.1 hi).1
  have := idx_lt hj hlt
  rw [Array.getElem?_map, Array.getElem?_range, if_pos (by simpa using this)]
  simp only [Option.map_some, Option.some.injEq]
  rw [hz, Nat.mul_comm, Nat.mul_add_mod, Nat.mod_eq_of_lt hlt]
  rw [getElem!_pos zero i (by omega)]
  exact (Array.getElem?_eq_some_iff.1 hi).2

theorem allScalar_get {xs : List PV} (h : allScalar xs = true) (j : Nat) (x : PV) (hx : xs[j]? = some x) : x.scalar = true := by
  induction xs generalizing j with
  | nil => simp at hx
  | cons y r ih =>
    simp only [allScalar, Bool.and_eq_true] at h
    cases j with
    | zero => simp at hx; subst hx; exact h.1
    | succ j => exact ih h.2 j (by simpa using hx)

theorem RowIs.flag {m : Bool} {z : Nat} {cells : Array Value} {xs : List PV} {vs : Nat → Value} (h : RowIs G B w m z cells xs vs) : RowIs G B w (m || allScalar xs) z cells xs vs := by
  intro j x hj
  obtain ⟨h1, h2, h3⟩ := h j x hj
  refine ⟨h1, ?_, h3⟩
  cases m with
  | true => exact h2
  | false => cases hs : allScalar xs with
    | false => exact h2
    | true => exact h2.scalar (allScalar_get hs j x hj)

theorem buildSlice_sound (h : SInv ρ G B n0 w S) {t : TypeId} {nk len : Nat} (hn : n0 ≤ nk) {ps : Array (Nat × Value)} {ss : List (Nat × SV)} (hl : ps.size = ss.length)
    (hp : ∀ (i : Nat) p s, ps[i]? = some p → ss[i]? = some s → p.1 = s.1 ∧ RelV ρ G B n0 w S p.2 s.2) {e : Eff} (he : buildSliceV P n0 nk S t len ss = some e) :
    Comes1 P B n0 ρ G w S (Instr.buildSlice t len ps) e := by
  unfold buildSliceV at he
  split at he
  · rename_i el hu
    split at he
    · rename_i y hy
      split at he
      · rename_i hcond
        obtain ⟨h24, hpos⟩ := hcond
        split at he
        · rename_i m xs δ hel
          split at he
          · rename_i hk
            simp only [Option.some.injEq] at he
            subst he
            obtain ⟨v, zv, z1, z2, z3, z4, z5, z6⟩ := zeroE_sound hy w
            obtain ⟨zc1, zc2⟩ := zero_cells (n := len) v.cells z2 hpos
            obtain ⟨c', vs', G', b1, b2, b3, b4, b5, b6⟩ := elems_sound (ps := ps.toList) (c := (Array.range (len * P.cellsOf el)).map (v.cells[· % v.cells.size]!)) (xs := List.replicate len y) (vs := fun _ => zv) (m0 := true) (n := len) h (by simpa using hl)
              (fun i p s hi hs => hp i p s (by simpa using hi) hs) (by simp) zc1 (fun j x hj => by
                have : j < len ∧ x = y := by
                  rw [List.getElem?_replicate] at hj
                  split at hj
                  · exact ⟨by assumption, by simpa using hj.symm⟩
                  · cases hj
                obtain ⟨h1, rfl⟩ := this
                exact ⟨z3, z5 _ _, fun i v hv => zc2 j i v h1 (by rw [← z6]; exact hv)⟩) hel
            rw [Bool.true_and] at b6
            obtain ⟨ρ', n1, n2, n3⟩ := new_row b4 (by simpa using hk) hn (cells := c') (xs := xs) (vs := vs') (m := m || allScalar xs) (z := P.cellsOf el) (cap := len) el (0, 0) (.inl rfl) hpos (by omega) b2 b6.flag
              { w with heap := w.heap.push (.cells c' el) } (.push rfl rfl rfl rfl) (by simp) (by simp) (over ((nk, Ob.row (m || allScalar xs) (P.cellsOf el) 0 xs) :: δ) S) (fun j => over_cons ..)
            refine ⟨_, ρ', G', _, ?_, n1, b5.trans n2, by rw [b3] at n3; exact n3⟩
            unfold Instr.buildSlice
            simp only [Sem.run_bind, run_underlying hu, Result.andThen_ok, run_sizeV hpos]
            rw [if_neg (by omega)]
            rw [Sem.run_ite]
            split
            · rename_i h0
              simp only [Sem.run_bind, Sem.run_pure, Result.andThen_ok]
              have hc0 : (Array.range (len * P.cellsOf el)).map ((#[] : Array Value)[· % (#[] : Array Value).size]!) = (Array.range (len * P.cellsOf el)).map (v.cells[· % v.cells.size]!) := by
                rw [h0]; simp
              rw [hc0, b1]
              rfl
            · simp only [Sem.run_bind, z1, Sem.run_pure, Result.andThen_ok]
              rw [b1]
              rfl
          · cases he
        · cases he
      · cases he
    · cases he
  · cases he

theorem wrap_i64_in {n : Int} (h0 : 0 ≤ n) (h1 : n ≤ 9223372036854775807) : IntKind.i64.wrap n = n := by
  unfold IntKind.wrap
  simp [IntKind.bits, IntKind.signed]
  omega

theorem makeSlice_sound (h : SInv ρ G B n0 w S) {t : TypeId} {nk : Nat} (hn : n0 ≤ nk) {l c : Value} {sl sc : SV} (hl : RelV ρ G B n0 w S l sl) (hc : RelV ρ G B n0 w S c sc) {e : Eff}
    (he : makeSliceV P nk S t sl sc = some e) : Comes1 P B n0 ρ G w S (Instr.makeSlice t l c) e := by
  unfold makeSliceV at he
  split at he
  · rename_i el m1 l' m2 c' hu
    split at he
    · rename_i y hy
      split at he
      · rename_i hcond
        obtain ⟨h0, hlc, hb, hcm, hpos, hk⟩ := hcond
        simp only [Option.some.injEq] at he
        subst he
        cases hl with
        | pure _ _ _ hl =>
          cases hl
          cases hc with
          | pure _ _ _ hc =>
            cases hc
            obtain ⟨v, zv, z1, z2, z3, z4, z5, z6⟩ := zeroE_sound hy w
            obtain ⟨zc1, zc2⟩ := zero_cells (n := c'.toNat) v.cells z2 hpos
            obtain ⟨i, hi⟩ : ∃ i, P.info? el = some i := by
              cases hi : P.info? el with
              | none => simp [Program.cellsOf, hi] at hpos
              | some i => exact ⟨i, rfl⟩
            have hbytes : P.bytesOf el = i.bytes := by simp [Program.bytesOf, hi]
            have hlen : (List.replicate l'.toNat y).length = l'.toNat := by simp
            obtain ⟨ρ', n1, n2, n3⟩ := new_row h (by simpa using hk) hn (cells := (Array.range (c'.toNat * P.cellsOf el)).map (v.cells[· % v.cells.size]!)) (xs := List.replicate l'.toNat y) (vs := fun _ => zv) (m := true)
              (z := P.cellsOf el) (cap := c'.toNat) el (0, 0) (.inl rfl) hpos (by simp; omega) zc1 (fun j x hj => by
                have : j < l'.toNat ∧ x = y := by
                  rw [List.getElem?_replicate] at hj
                  split at hj
                  · exact ⟨by assumption, by simpa using hj.symm⟩
                  · cases hj
                obtain ⟨h1, rfl⟩ := this
                exact ⟨z3, z5 _ _, fun i v hv => zc2 j i v (by omega) (by rw [← z6]; exact hv)⟩)
              { w with heap := w.heap.push (.cells ((Array.range (c'.toNat * P.cellsOf el)).map (v.cells[· % v.cells.size]!)) el) } (.push rfl rfl rfl rfl) (by simp) (by simp)
              (over [(nk, Ob.row true (P.cellsOf el) 0 (List.replicate l'.toNat y))] S) (fun j => over_one ..)
            rw [hlen] at n3
            refine ⟨_, ρ', G, _, ?_, n1, n2, n3⟩
            unfold Instr.makeSlice
            have hcb : (c'.toNat : Int) = c' := Int.toNat_of_nonneg (by omega)
            have hbn : ¬ (i.bytes : Int) * c' > 2 ^ 48 := by
              rw [hbytes] at hb
              have : (i.bytes : Int) * c' = c' * i.bytes := Int.mul_comm ..
              omega
            have hbl : ¬ (i.bytes : Int) * l' > 2 ^ 48 := by
              have : (i.bytes : Int) * l' ≤ (i.bytes : Int) * c' := Int.mul_le_mul_of_nonneg_left hlc (by omega)
              omega
            simp only [Sem.run_bind, run_underlying hu, Result.andThen_ok, asInt, asIntOf, Sem.run_pure, run_typeInfo w hi, wrap_i64_in h0 (by omega), wrap_i64_in (show 0 ≤ c' by omega) (by omega)]
            have hcneg : ¬ c' < 0 := by omega
            have hlneg : ¬ l' < 0 := by omega
            have hlc' : ¬ l' > c' := by omega
            have hbn' : ¬ (2:Int) ^ 48 < (i.bytes : Int) * c' := hbn
            simp only [hcneg, hlneg, hlc', gt_iff_lt, hbn', decide_false, Bool.or_false, Bool.false_eq_true, if_false, Bool.or_self]
            simp only [run_askRoom, Result.andThen_ok, Sem.run_bind, run_sizeV hpos]
            rw [Sem.run_ite]
            split
            · rename_i h0
              simp only [Sem.run_bind, Sem.run_pure, Result.andThen_ok]
              have hc0 : (Array.range (c'.toNat * P.cellsOf el)).map ((#[] : Array Value)[· % (#[] : Array Value).size]!) = (Array.range (c'.toNat * P.cellsOf el)).map (v.cells[· % v.cells.size]!) := by
                rw [h0]; simp
              rw [hc0]
              rfl
            · simp only [Sem.run_bind, z1, Sem.run_pure, Result.andThen_ok]
              rfl
      · cases he
    · cases he
  · cases he

theorem makeMap_sound (h : SInv ρ G B n0 w S) {t : TypeId} {nk : Nat} (hn : n0 ≤ nk) {e : Eff} (he : makeMapV P nk S t = some e) : Comes1 P B n0 ρ G w S (Instr.makeMap t none) e := by
  have key : ∀ (ob : Ob), (ob = .maps [] ∨ ob = .map true []) → S nk = none → e = { res := .map nk, wr := [(nk, ob)], rd := some [nk] } → Comes1 P B n0 ρ G w S (Instr.makeMap t none) e := by
    intro ob hob hk he
    subst he
    have hnew := inv_new (ρ' := fun j => if nk = j then some (w.heap.size, 0, 0) else ρ j) (p := some (w.heap.size, 0, 0)) (ob := ob) (w' := { w with heap := w.heap.push (.map #[] 0) }) (S' := over [(nk, ob)] S) h
      (.push rfl rfl rfl rfl) hk (fun j => over_one ..) (fun j => rfl) (fun b c hb => by cases hb; simp)
      (fun hx => by
        rcases hob with rfl | rfl
        · exact ⟨w.heap.size, (0, 0), #[], 0, by simp, by simp, rfl, fun i e p he _ => by simp at he⟩
        · exact ⟨w.heap.size, (0, 0), #[], 0, by simp, by simp, rfl, fun i e p he _ => by simp at he⟩)
    exact ⟨_, _, G, _, rfl, hnew.1, hnew.2, .map nk w.heap.size (0, 0) ob (by rw [over_one, if_pos rfl]) (by rcases hob with rfl | rfl <;> rfl) (by simp)⟩
  unfold makeMapV at he
  split at he
  · rename_i hk
    have hk : S nk = none := by simpa using hk
    split at he
    · split at he <;> simp only [Option.some.injEq] at he
      · exact key _ (.inl rfl) hk he.symm
      · exact key _ (.inl rfl) hk he.symm
      · exact key _ (.inl rfl) hk he.symm
      · exact key _ (.inr rfl) hk he.symm
    · cases he
  · cases he

end
end Go.Proofs.YticdhmcbooabaaaDoor.V
