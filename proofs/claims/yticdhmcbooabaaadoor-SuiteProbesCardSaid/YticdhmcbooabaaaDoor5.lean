/- V5: slices that are read and appended to; addresses; conversions. No claim. -/
import Derived.Test.YticdhmcbooabaaaDoor4
set_option linter.unusedVariables false
set_option linter.unusedSimpArgs false
namespace Go.Proofs.YticdhmcbooabaaaDoor.V
open Go

section
variable {B n0 : Nat} {ρ : Emb} {G : Cs} {w : World} {S : Look} {P : Program}

theorem allW_get {z : Nat} {xs : List PV} (h : allW z xs = true) (j : Nat) (x : PV) (hx : xs[j]? = some x) : x.cells.length = z := by
  induction xs generalizing j with
  | nil => simp at hx
  | cons y r ih =>
    simp only [allW, Bool.and_eq_true, decide_eq_true_eq] at h
    cases j with
    | zero => simp at hx; subst hx; exact h.1
    | succ j => exact ih h.2 j (by simpa using hx)

/-- The cells of a value that reads as a list. -/
theorem flat_cells {z : Nat} {xs : List PV} {vs : Nat → Value} {m : Bool} (hz : 0 < z) (h : ∀ (j : Nat) x, xs[j]? = some x → x.cells.length = z ∧ RepV (Gm G B m) w (vs j) x) :
    ∃ cells : Array Value, cells.size = xs.length * z ∧ RowIs G B w m z cells xs vs ∧ ∀ i v, cells[i]? = some v → ∃ j x, xs[j]? = some x ∧ i = j * z + (i - j * z) ∧ (vs j).cells[i - j * z]? = some v := by
  refine ⟨(Array.range (xs.length * z)).map fun i => ((vs (i / z)).cells[i % z]?).getD undef, by simp, fun j x hj => ⟨(h j x hj).1, (h j x hj).2, fun i v hv => ?_⟩, fun i v hv => ?_⟩
  · have hi : i < z := by
      have := (Array.getElem?_eq_some_iff.1 hv).1
      have h2 := (h j x hj).2.size
      have h3 := (h j x hj).1
      omega
    have hj' : j < xs.length := (List.getElem?_eq_some_iff.1 hj).1
    have := idx_lt hj' hi
    rw [Array.getElem?_map, Array.getElem?_range, if_pos this]
    have e1 : (j * z + i) / z = j := by rw [Nat.mul_comm, Nat.mul_add_div hz, Nat.div_eq_of_lt hi, Nat.add_zero]
    have e2 : (j * z + i) % z = i := by rw [Nat.mul_comm, Nat.mul_add_mod, Nat.mod_eq_of_lt hi]
    simp [e1, e2, hv]
  · rw [Array.getElem?_map, Array.getElem?_range] at hv
    split at hv
    · rename_i hlt
      have h1 : i / z < xs.length := Nat.div_lt_of_lt_mul (by rw [Nat.mul_comm]; exact hlt)
      obtain ⟨h2, h3⟩ := h (i / z) _ (List.getElem?_eq_getElem h1)
      have h4 : i % z < (vs (i / z)).cells.size := by rw [h3.size, h2]; exact Nat.mod_lt _ hz
      have h5 : i / z * z + i % z = i := by rw [Nat.mul_comm]; exact Nat.div_add_mod i z
      refine ⟨i / z, _, List.getElem?_eq_getElem h1, by omega, ?_⟩
      rw [show i - i / z * z = i % z by omega]
      simp only [Option.map_some, Option.some.injEq] at hv
      rw [Array.getElem?_eq_getElem h4] at hv ⊢
      simpa using hv
    · simp at hv

/-- What is read of a slice's (or a text's) elements. -/
structure Reads (P : Program) (G : Cs) (B : Nat) (w : World) (z : Nat) (v : Value) (m : Bool) (xs : List PV) : Prop where
  len : (Builtin.lenOf v).run P w = .ok xs.length w
  cells : ∃ cells vs, (Builtin.firstCells z xs.length v).run P w = .ok cells w ∧ cells.size = xs.length * z ∧ RowIs G B w m z cells xs vs
  pref : ∀ n, n ≤ xs.length → ∃ cells vs, (Builtin.firstCells z n v).run P w = .ok cells w ∧ cells.size = n * z ∧ RowIs G B w m z cells (xs.take n) vs

theorem run_firstCells {A : Option Addr} {n len cap z : Nat} {cells : List Value} (hl : cells.length = n * z) (h : 0 < n * z → ∃ b off, A = some ⟨b, off, none⟩ ∧ ∀ (i : Nat) v, cells[i]? = some v → w.cell? ⟨b, off + i, none⟩ = some v) :
    (Builtin.firstCells z n (.slice A len cap)).run P w = .ok cells.toArray w := by
  cases A with
  | none =>
    have : ¬ 0 < n * z := fun hp => by obtain ⟨b, off, h, _⟩ := h hp; cases h
    have : cells = [] := List.eq_nil_of_length_eq_zero (by omega)
    subst this
    rfl
  | some a =>
    unfold Builtin.firstCells
    by_cases hp : 0 < n * z
    · obtain ⟨b, off, h1, h2⟩ := h hp
      cases h1
      rw [← hl]
      exact run_loadCells_list w _ cells (fun j v hv => by rw [add_at]; exact h2 j v hv)
    · have : cells = [] := List.eq_nil_of_length_eq_zero (by omega)
      subst this
      have h0 : n * z = 0 := by omega
      rw [h0]
      rfl

theorem RowIs.take {z : Nat} {m : Bool} {cells : Array Value} {xs : List PV} {vs : Nat → Value} (h : RowIs G B w m z cells xs vs) (n : Nat) (cells' : Array Value)
    (hc : ∀ i, i < n * z → cells'[i]? = cells[i]?) (hz : 0 < z) : RowIs G B w m z cells' (xs.take n) vs := by
  intro j x hj
  rw [List.getElem?_take] at hj
  split at hj
  · rename_i hlt
    obtain ⟨h1, h2, h3⟩ := h j x hj
    refine ⟨h1, h2, fun i v hv => ?_⟩
    have hi : i < z := by
      have := (Array.getElem?_eq_some_iff.1 hv).1
      have := h2.size
      omega
    rw [hc _ (idx_lt hlt hi)]
    exact h3 i v hv
  · cases hj

/-- A run of cells that bear elements: what is read of them. -/
theorem reads_run {A : Option Addr} {len cap z : Nat} {m : Bool} {xs : List PV} {cells : List Value} {vs : Nat → Value} (hz : 0 < z) (hlen : len = xs.length) (hl : xs.length * z ≤ cells.length)
    (hA : 0 < xs.length → ∃ b off, A = some ⟨b, off, none⟩ ∧ ∀ (i : Nat) v, i < xs.length * z → cells[i]? = some v → w.cell? ⟨b, off + i, none⟩ = some v) (hr : RowIs G B w m z cells.toArray xs vs) :
    Reads P G B w z (.slice A len cap) m xs := by
  have key : ∀ n, n ≤ xs.length → ∃ cells vs, (Builtin.firstCells z n (.slice A len cap)).run P w = .ok cells w ∧ cells.size = n * z ∧ RowIs G B w m z cells (xs.take n) vs := by
    intro n hn
    have hnz := Nat.mul_le_mul_right z hn
    refine ⟨(cells.take (n * z)).toArray, vs, run_firstCells (by simp; omega) (fun hp => ?_), by simp; omega, hr.take n _ (fun i hi => by simp [hi]) hz⟩
    have : 0 < n := Nat.pos_of_mul_pos_right (Nat.mul_comm n z ▸ hp) |> fun h => by
      rcases Nat.eq_zero_or_pos n with h0 | h0
      · subst h0; simp at hp
      · exact h0
    obtain ⟨b, off, h1, h2⟩ := hA (by omega)
    refine ⟨b, off, h1, fun i v hv => ?_⟩
    rw [List.getElem?_take] at hv
    split at hv
    · exact h2 i v (by omega) hv
    · cases hv
  refine ⟨by simp [Builtin.lenOf, hlen], ?_, key⟩
  obtain ⟨c, vs', h1, h2, h3⟩ := key xs.length (Nat.le_refl _)
  exact ⟨c, vs', h1, h2, by rw [List.take_length] at h3; exact h3⟩

/-- What pure data tell of a slice. -/
theorem reads_rep {m : Bool} {v : Value} {xs : List PV} (h : RepV (Gm G B m) w v (.sl xs)) {z : Nat} (hz : 0 < z) (hw : ∀ (j : Nat) x, xs[j]? = some x → x.cells.length = z) : Reads P G B w z v m xs := by
  cases h with
  | nil A cap => exact reads_run (cells := []) (vs := fun _ => undef) hz rfl (by simp) (fun h => by simp at h) (fun j x hj => by simp at hj)
  | sl b off n cap z' _ vs hn hz' hcap he hw' hm =>
    by_cases h0 : xs.length = 0
    · have : xs = [] := List.eq_nil_of_length_eq_zero h0
      subst this
      exact reads_run (cells := []) (vs := vs) hz hn.symm (by simp) (fun h => by simp at h) (fun j x hj => by simp at hj)
    · have hzz : z' = z := by
        have h1 : xs[0]? = some (xs[0]'(by omega)) := List.getElem?_eq_getElem (by omega)
        rw [← hw' 0 _ h1, hw 0 _ h1]
      subst hzz
      obtain ⟨cells, c1, c2, c3⟩ := flat_cells (vs := vs) (m := m) hz' (fun j x hj => ⟨hw' j x hj, he j x hj⟩)
      refine reads_run (cells := cells.toList) (vs := vs) hz' hn.symm (by simp; omega) (fun _ => ⟨b, off, rfl, fun i v _ hv => ?_⟩) (by simpa using c2)
      obtain ⟨j, x, h1, h2, h3⟩ := c3 i v (by simpa using hv)
      have := (hm j x _ v h1 h3).1
      rw [Nat.add_assoc, ← h2] at this
      exact this

theorem reads_mono {z : Nat} {v : Value} {m m' : Bool} {xs : List PV} (h : Reads P G B w z v m xs) (hm : m' = true → m = true) : Reads P G B w z v m' xs := by
  refine ⟨h.len, ?_, fun n hn => ?_⟩
  · obtain ⟨c, vs, h1, h2, h3⟩ := h.cells
    exact ⟨c, vs, h1, h2, h3.mono hm fun b o hb => ⟨hb, fun _ h => h⟩⟩
  · obtain ⟨c, vs, h1, h2, h3⟩ := h.pref n hn
    exact ⟨c, vs, h1, h2, h3.mono hm fun b o hb => ⟨hb, fun _ h => h⟩⟩

theorem bytes_get {s : List UInt8} {j : Nat} {x : PV} (h : (bytesOf s)[j]? = some x) : ∃ b, s[j]? = some b ∧ x = .int .u8 b.toNat := by
  simp only [bytesOf, List.getElem?_map, Option.map_eq_some_iff] at h
  obtain ⟨b, h1, h2⟩ := h
  exact ⟨b, h1, h2.symm⟩

theorem readS_sound (h : SInv ρ G B n0 w S) {z : Nat} (hz : 0 < z) {v : Value} {s : SV} (hv : RelV ρ G B n0 w S v s) {m : Bool} {xs : List PV} {ks : List Nat} (hr : readS S z s = some (m, xs, ks)) :
    Reads P G B w z v m xs := by
  cases hv with
  | pure m' x v hv =>
    cases x with
    | sl l =>
      simp only [readS] at hr
      split at hr
      · rename_i hw
        simp only [Option.some.injEq, Prod.mk.injEq] at hr
        obtain ⟨rfl, rfl, _⟩ := hr
        exact reads_rep hv hz (fun j x hj => allW_get hw j x hj)
      · cases hr
    | str l =>
      simp only [readS] at hr
      split at hr
      · rename_i hz1
        subst hz1
        simp only [Option.some.injEq, Prod.mk.injEq] at hr
        obtain ⟨rfl, rfl, _⟩ := hr
        cases hv with
        | str s =>
          have hl : (bytesOf s.data.toList).length = s.size := by simp [bytesOf]
          have key : ∀ n, n ≤ (bytesOf s.data.toList).length → ∃ cells vs, (Builtin.firstCells 1 n (.string s)).run P w = .ok cells w ∧ cells.size = n * 1 ∧ RowIs G B w true 1 cells ((bytesOf s.data.toList).take n) vs := by
            intro n hn
            refine ⟨_, fun j => ((s.data.toList[j]?).map fun b => Value.int .u8 b.toNat).getD undef, rfl, ?_, ?_⟩
            · have h1 : (s.extract 0 n).size = n := by rw [ByteArray.size_extract]; omega
              have h2 : (s.extract 0 n).data.size = n := h1
              simp [h2]
              omega
            · intro j x hj
              rw [List.getElem?_take] at hj
              split at hj
              · rename_i hlt
                obtain ⟨b, hb, rfl⟩ := bytes_get hj
                refine ⟨rfl, by simp only [hb, Option.map_some, Option.getD_some]; exact .int .., fun i v hv => ?_⟩
                simp only [hb, Option.map_some, Option.getD_some, Value.cells] at hv
                cases i with
                | zero =>
                  simp at hv
                  subst hv
                  have : (s.extract 0 n).data.toList[j]? = some b := by
                    rw [ByteArray.data_extract]
                    rw [Array.toList_extract, List.extract_eq_take_drop]
                    simp only [Nat.sub_zero, List.drop_zero]
                    rw [List.getElem?_take, if_pos hlt]
                    exact hb
                  simp only [Nat.mul_one, Nat.add_zero, Array.getElem?_map]
                  rw [← Array.getElem?_toList, this]
                  rfl
                | succ i => simp at hv
              · cases hj
          refine ⟨by simp [Builtin.lenOf, hl], ?_, key⟩
          obtain ⟨c, vs', h1, h2, h3⟩ := key _ (Nat.le_refl _)
          exact ⟨c, vs', h1, h2, by rw [List.take_length] at h3; exact h3⟩
      · cases hr
    | opq v' =>
      have hn : isNilP (.opq v') = true ∧ xs = [] := by
        unfold readS at hr
        split at hr <;> simp_all [isNilP]
      obtain ⟨h1, rfl⟩ := hn
      rw [isNilP_val hv h1]
      exact reads_rep (.nil none 0) hz (fun j x hj => by simp at hj)
    | _ => simp [readS] at hr
  | row k len A cap m' z' lim xs' hk hrel =>
    simp only [readS, hk] at hr
    obtain ⟨o1, o2, o3⟩ := h.obj k _ hk
    have front : len = xs'.length → Tie (ρ k) xs' A cap → (z' = z ∨ xs' = []) → Reads P G B w z (.slice A len cap) m' xs' := by
      intro hl ht hzz
      cases hb : ρ k with
      | none =>
        rw [hb] at ht
        obtain ⟨rfl, rfl, rfl⟩ := ht
        exact reads_run (cells := []) (vs := fun _ => undef) hz hl (by simp) (fun h => by simp at h) (fun j x hj => by simp at hj)
      | some p =>
        obtain ⟨b, c, f⟩ := p
        rw [hb] at ht
        obtain ⟨rfl, rfl⟩ := ht
        obtain ⟨o4, o5, cells, T, fr, vs, o6, o7, o8, o9, o10⟩ := o3 b cap f hb
        rcases hzz with rfl | rfl
        · refine reads_run (cells := cells.toList.drop f) (vs := vs) hz hl (by have := Nat.mul_le_mul_right z' o5; simp; omega) (fun _ => ⟨b, f, rfl, fun i v _ hv => by rw [cell_of o6]; simpa using hv⟩) (fun j x hj => by
            obtain ⟨q1, q2, q3⟩ := o10 j x hj
            exact ⟨q1, q2, fun i v hv => by simpa [Nat.add_assoc] using q3 i v hv⟩)
        · exact reads_run (cells := []) (vs := fun _ => undef) hz hl (by simp) (fun h => by simp at h) (fun j x hj => by simp at hj)
    split at hr
    · rename_i hc
      simp only [Option.some.injEq, Prod.mk.injEq] at hr
      obtain ⟨rfl, rfl, _⟩ := hr
      rcases hrel with ⟨h1, h2⟩ | ⟨h1, h2, h3⟩
      · exact front h1 h2 hc.2
      · omega
    · rename_i hnc
      split at hr
      · rename_i hc
        simp only [Option.some.injEq, Prod.mk.injEq] at hr
        obtain ⟨rfl, rfl, _⟩ := hr
        rcases hrel with ⟨h1, h2⟩ | ⟨h1, h2, h3⟩
        · exact absurd ⟨h1, .inl hc.2⟩ hnc
        · cases hb : ρ k with
          | none =>
            rcases o2 hb with e | ⟨_, e⟩
            · subst e; simp at h2
            · refine reads_mono (reads_rep h3 hz fun j x hj => ?_) (fun h => by cases h)
              rw [← hc.2]
              rw [List.getElem?_take] at hj
              split at hj
              · exact e j x (by omega) hj
              · cases hj
          | some p =>
            obtain ⟨b, c, f⟩ := p
            obtain ⟨o4, o5, cells, T, fr, vs, o6, o7, o8, o9, o10⟩ := o3 b c f hb
            refine reads_mono (reads_rep h3 hz fun j x hj => ?_) (fun h => by cases h)
            rw [← hc.2]
            rw [List.getElem?_take] at hj
            split at hj
            · exact (o10 j x hj).1
            · cases hj
      · cases hr
  | view k off z' n b c cap ob hk hro hb hcap =>
    simp only [readS, hk] at hr
    cases ob with
    | box cs =>
      simp only at hr
      split at hr
      · rename_i m0 l hp
        split at hr
        · rename_i hc
          obtain ⟨rfl, rfl, hle⟩ := hc
          simp only [Option.some.injEq, Prod.mk.injEq] at hr
          obtain ⟨rfl, rfl, _⟩ := hr
          obtain ⟨hl, hget⟩ := pures_get hp
          obtain ⟨b', c', cells, T, fr, o1, o2, o3, o4, o5⟩ := h.obj k _ hk
          rw [hb] at o1
          cases o1
          have hlen : ((l.drop off).take n).length = n := by simp; omega
          refine reads_run (cells := (cells.toList.drop off).take n) (vs := fun j => (cells[off + j]?).getD undef) Nat.one_pos hlen.symm (by simp; omega) (fun _ => ⟨b, off, rfl, fun i v _ hv => by
            rw [cell_of o2]
            simpa using (take_drop_get hv).2⟩) (fun j x hj => ?_)
          obtain ⟨h1, h2⟩ := take_drop_get hj
          obtain ⟨m', hm', hc⟩ := hget (off + j) x h2
          have hlt : off + j < cells.size := by
            have := (List.getElem?_eq_some_iff.1 h2).1
            omega
          obtain ⟨cv, hcv⟩ : ∃ v, cells[off + j]? = some v := ⟨_, Array.getElem?_eq_getElem hlt⟩
          obtain ⟨r1, r2⟩ := o5 (off + j) _ _ hcv hc
          cases r1 with
          | pure _ _ _ r1 =>
            have hna := r1.nagg r2
            refine ⟨by rw [nagg_cells hna]; rfl, by simp only [hcv, Option.getD_some]; exact r1.weaken (Gm.le hm'), fun i v hv => ?_⟩
            simp only [hcv, Option.getD_some, r2.cells] at hv
            cases i with
            | zero =>
              simp at hv
              subst hv
              simp [List.getElem?_take, h1, hcv]
            | succ i => simp at hv
        · cases hr
      · cases hr
    | fbox m0 l =>
      simp only at hr
      split at hr
      · rename_i hc
        obtain ⟨rfl, rfl, hle⟩ := hc
        simp only [Option.some.injEq, Prod.mk.injEq] at hr
        obtain ⟨rfl, rfl, _⟩ := hr
        obtain ⟨b', c', cells, T, fr, o1, o2, o4, o3, o5⟩ := h.obj k _ hk
        rw [hb] at o1
        cases o1
        have hlen : ((l.drop off).take n).length = n := by simp; omega
        refine reads_run (cells := (cells.toList.drop off).take n) (vs := fun j => (cells[off + j]?).getD undef) Nat.one_pos hlen.symm (by simp; omega) (fun _ => ⟨b, off, rfl, fun i v _ hv => by
          rw [cell_of o2]
          simpa using (take_drop_get hv).2⟩) (fun j x hj => ?_)
        obtain ⟨h1, h2⟩ := take_drop_get hj
        have hlt : off + j < cells.size := by
          have := (List.getElem?_eq_some_iff.1 h2).1
          omega
        obtain ⟨cv, hcv⟩ : ∃ v, cells[off + j]? = some v := ⟨_, Array.getElem?_eq_getElem hlt⟩
        obtain ⟨r1, hna⟩ := o5 (off + j) _ _ hcv h2
        refine ⟨by rw [nagg_cells hna]; rfl, by simp only [hcv, Option.getD_some]; exact r1, fun i v hv => ?_⟩
        simp only [hcv, Option.getD_some, (r1.plain hna).cells] at hv
        cases i with
        | zero =>
          simp at hv
          subst hv
          simp [List.getElem?_take, h1, hcv]
        | succ i => simp at hv
      · cases hr
    | _ => simp at hr
  | _ => simp [readS] at hr

/-! ### append -/
theorem growBy_le (newLen : Nat) (hn : 256 ≤ newLen) : ∀ (rounds c : Nat), c < newLen ∨ c ≤ 2 * newLen → Builtin.growBy newLen rounds c ≤ 2 * newLen := by
  intro rounds
  induction rounds with
  | zero => intro c h; simp only [Builtin.growBy]; omega
  | succ r ih =>
    intro c h
    simp only [Builtin.growBy]
    split
    · omega
    · exact ih _ (.inr (by omega))

theorem nextcap_le (newLen oldCap : Nat) (h : oldCap < newLen) : Builtin.nextslicecap newLen oldCap ≤ 2 * newLen := by
  unfold Builtin.nextslicecap
  split
  · omega
  · split
    · omega
    · exact growBy_le newLen (by omega) 4 oldCap (.inl h)

theorem run_append_in {st xt : TypeId} {args : Array TypeId} {rt : TypeId} {el : TypeId} {d : TypeDesc} (h0 : args[0]? = some st) (h1 : args[1]? = some xt) (hu : P.underlying st = some (.slice el)) (hx : P.underlying xt = some d)
    (hd : (∃ e', d = .slice e') ∨ d = .string) (hz : 0 < P.cellsOf el) {A : Option Addr} {len cap n : Nat} {v : Value} {cx : Array Value} (w : World)
    (hn : (Builtin.lenOf v).run P w = .ok n w) (hf : (Builtin.firstCells (P.cellsOf el) n v).run P w = .ok cx w) (hle : len + n ≤ cap) :
    (Builtin.append_ args rt #[.slice A len cap, v]).run P w =
      match A with
      | some a => ((storeCells (a.add (len * P.cellsOf el)) cx.toList).run P w).andThen fun _ w' => .ok (.slice A (len + n) cap) w'
      | none => .ok (.slice none (len + n) cap) w := by
  unfold Builtin.append_
  rcases hd with ⟨e', rfl⟩ | rfl <;>
  · simp only [h0, h1, Sem.run_bind, run_underlying hu, run_underlying hx, Result.andThen_ok, run_sizeV hz, Sem.run_pure, hn, hf, hle, if_true, List.getElem?_toArray, List.getElem?_cons_zero, List.getElem?_cons_succ, Bool.false_eq_true, if_false, Bool.not_false]
    cases A <;> simp
theorem run_append_out {st xt : TypeId} {args : Array TypeId} {rt : TypeId} {el : TypeId} {d : TypeDesc} (h0 : args[0]? = some st) (h1 : args[1]? = some xt) (hu : P.underlying st = some (.slice el)) (hx : P.underlying xt = some d)
    (hd : (∃ e', d = .slice e') ∨ d = .string) (hz : 0 < P.cellsOf el) (hb : 0 < P.bytesOf el) {A : Option Addr} {len cap n : Nat} {v zero : Value} {co cx : Array Value} (w : World)
    (hn : (Builtin.lenOf v).run P w = .ok n w) (hf : (Builtin.firstCells (P.cellsOf el) n v).run P { w with drawn := w.drawn + 1 } = .ok cx { w with drawn := w.drawn + 1 }) (ho : (Builtin.firstCells (P.cellsOf el) len (.slice A len cap)).run P { w with drawn := w.drawn + 1 } = .ok co { w with drawn := w.drawn + 1 })
    (hzero : ∀ w, (zeroValue el).run P w = .ok zero w) (hgt : cap < len + n) (hroom : (len + n) * P.bytesOf el ≤ 140737488355328) :
    ∃ newCap, len + n ≤ newCap ∧ (Builtin.append_ args rt #[.slice A len cap, v]).run P w =
      .ok (.slice (some ⟨w.heap.size, 0, none⟩) (len + n) newCap) { w with drawn := w.drawn + 1, heap := w.heap.push (.cells (co ++ cx ++ Builtin.zeroCells zero.cells (newCap - (len + n))) el) } := by
  obtain ⟨i, hi⟩ : ∃ i, P.info? el = some i := by
    cases hi : P.info? el with
    | none => simp [Program.cellsOf, hi] at hz
    | some i => exact ⟨i, rfl⟩
  have hbi : P.bytesOf el = i.bytes := by simp [Program.bytesOf, hi]
  refine ⟨len + n + w.tape w.drawn (.appendCap (len + n) cap el) % (2 ^ 63 - (len + n)), by omega, ?_⟩
  have hcap : ¬ Builtin.nextslicecap (len + n) cap * i.bytes > 2 ^ 48 := by
    have h1 := nextcap_le (len + n) cap hgt
    have h2 := Nat.mul_le_mul_right i.bytes h1
    rw [hbi] at hroom
    rw [Nat.mul_assoc] at h2
    omega
  unfold Builtin.append_
  have hnle : ¬ len + n ≤ cap := by omega
  have hbne : ¬ i.bytes = 0 := by omega
  rcases hd with ⟨e', rfl⟩ | rfl <;>
  · simp only [h0, h1, Sem.run_bind, run_underlying hu, run_underlying hx, Result.andThen_ok, run_sizeV hz, Sem.run_pure, hn, hnle, if_false, List.getElem?_toArray, List.getElem?_cons_zero, List.getElem?_cons_succ, Bool.false_eq_true, Bool.not_false, run_typeInfo w hi, hbne, or_self, and_false, hcap,
      run_choose, Question.forced, Question.cut, if_true, run_typeInfo _ hi, run_askRoom, ho, hf, hzero, newRow, run_newObj]

theorem RowIs.plain {z : Nat} {m : Bool} {cells : Array Value} {xs : List PV} {vs : Nat → Value} (hz : 0 < z) (h : RowIs G B w m z cells xs vs) (hs : cells.size = xs.length * z) : ∀ v ∈ cells.toList, Plain v := by
  intro v hv
  obtain ⟨q, hq⟩ := List.getElem?_of_mem hv
  have hq' : cells[q]? = some v := by simpa using hq
  have hlt : q < xs.length * z := by rw [← hs]; exact (Array.getElem?_eq_some_iff.1 hq').1
  have h1 : q / z < xs.length := Nat.div_lt_of_lt_mul (by rw [Nat.mul_comm]; exact hlt)
  obtain ⟨h2, h3, h4⟩ := h (q / z) _ (List.getElem?_eq_getElem h1)
  have h5 : q % z < (vs (q / z)).cells.size := by rw [h3.size, h2]; exact Nat.mod_lt _ hz
  have h6 := h4 (q % z) _ (Array.getElem?_eq_getElem h5)
  have h7 : q / z * z + q % z = q := by rw [Nat.mul_comm]; exact Nat.div_add_mod q z
  rw [h7, hq'] at h6
  cases h6
  obtain ⟨r1, r2⟩ := h3.cell (q % z) _ _ (Array.getElem?_eq_getElem h5) (List.getElem?_eq_getElem (by rw [← h3.size]; exact h5))
  exact r1.plain r2

/-- Two runs of cells, one behind the other. -/
theorem RowIs.append {z : Nat} {m m' : Bool} {cells c1 c2 : Array Value} {xs ys : List PV} {vs us : Nat → Value} (hz : 0 < z) (h : RowIs G B w m z c1 xs vs) (h' : RowIs G B w m' z c2 ys us)
    (e1 : ∀ i, i < xs.length * z → cells[i]? = c1[i]?) (e2 : ∀ i, i < ys.length * z → cells[xs.length * z + i]? = c2[i]?) :
    RowIs G B w (m && (m' || allScalar ys)) z cells (xs ++ ys) (fun j => if j < xs.length then vs j else us (j - xs.length)) := by
  intro j x hj
  by_cases hlt : j < xs.length
  · rw [List.getElem?_append_left hlt] at hj
    obtain ⟨h1, h2, h3⟩ := h j x hj
    simp only [hlt, if_true]
    refine ⟨h1, h2.weaken (Gm.le fun e => by simp only [Bool.and_eq_true] at e; exact e.1), fun i v hv => ?_⟩
    have hi : i < z := by
      have := (Array.getElem?_eq_some_iff.1 hv).1
      have := h2.size
      omega
    rw [e1 _ (idx_lt hlt hi)]
    exact h3 i v hv
  · rw [List.getElem?_append_right (by omega)] at hj
    obtain ⟨h1, h2, h3⟩ := h'.flag (j - xs.length) x hj
    simp only [hlt, if_false]
    refine ⟨h1, h2.weaken (Gm.le fun e => by simp only [Bool.and_eq_true] at e; exact e.2), fun i v hv => ?_⟩
    have hi : i < z := by
      have := (Array.getElem?_eq_some_iff.1 hv).1
      have := h2.size
      omega
    have hjl : j - xs.length < ys.length := (List.getElem?_eq_some_iff.1 hj).1
    have e3 : j * z = xs.length * z + (j - xs.length) * z := by rw [← Nat.add_mul]; congr 1; omega
    rw [e3, Nat.add_assoc, e2 _ (idx_lt hjl hi)]
    exact h3 i v hv

def RowAt (f : Nat) (G : Cs) (B : Nat) (w : World) (m : Bool) (z : Nat) (cells : Array Value) (xs : List PV) (vs : Nat → Value) : Prop :=
  ∀ (j : Nat) x, xs[j]? = some x → x.cells.length = z ∧ RepV (Gm G B m) w (vs j) x ∧ ∀ (i : Nat) v, (vs j).cells[i]? = some v → cells[f + j * z + i]? = some v

theorem RowAt.append {f : Nat} {m m' : Bool} {z : Nat} {xs ys : List PV} {cells0 cx cells : Array Value} {vs us : Nat → Value} (hz : 0 < z) (h : RowAt f G B w m z cells0 xs vs) (h' : RowIs G B w m' z cx ys us)
    (e1 : ∀ i, i < xs.length * z → cells[f + i]? = cells0[f + i]?) (e2 : ∀ i, i < ys.length * z → cells[f + xs.length * z + i]? = cx[i]?) :
    RowAt f G B w (m && (m' || allScalar ys)) z cells (xs ++ ys) (fun j => if j < xs.length then vs j else us (j - xs.length)) := by
  intro j x hj
  by_cases hlt : j < xs.length
  · rw [List.getElem?_append_left hlt] at hj
    obtain ⟨h1, h2, h3⟩ := h j x hj
    simp only [hlt, if_true]
    refine ⟨h1, h2.weaken (Gm.le fun e => by simp only [Bool.and_eq_true] at e; exact e.1), fun i v hv => ?_⟩
    have hi : i < z := by
      have := (Array.getElem?_eq_some_iff.1 hv).1
      have := h2.size
      omega
    rw [Nat.add_assoc, e1 _ (idx_lt hlt hi), ← Nat.add_assoc]
    exact h3 i v hv
  · rw [List.getElem?_append_right (by omega)] at hj
    obtain ⟨h1, h2, h3⟩ := h'.flag (j - xs.length) x hj
    simp only [hlt, if_false]
    refine ⟨h1, h2.weaken (Gm.le fun e => by simp only [Bool.and_eq_true] at e; exact e.2), fun i v hv => ?_⟩
    have hi : i < z := by
      have := (Array.getElem?_eq_some_iff.1 hv).1
      have := h2.size
      omega
    have hjl : j - xs.length < ys.length := (List.getElem?_eq_some_iff.1 hj).1
    have e3 : j * z = xs.length * z + (j - xs.length) * z := by rw [← Nat.add_mul]; congr 1; omega
    rw [e3, show f + (xs.length * z + (j - xs.length) * z) + i = f + xs.length * z + ((j - xs.length) * z + i) by omega, e2 _ (idx_lt hjl hi)]
    exact h3 i v hv

theorem append_row_sound (h : SInv ρ G B n0 w S) {k : Nat} {m m' : Bool} {z lim cap : Nat} {xs ys : List PV} {A : Option Addr} {ks : List Nat} {x : SV} {v : Value} (hk : S k = some (.row m z lim xs)) (ht : Tie (ρ k) xs A cap)
    (hx : RelV ρ G B n0 w S v x) {st xt : TypeId} {args : Array TypeId} {rt : TypeId} {el : TypeId} {d : TypeDesc} (h0 : args[0]? = some st) (h1 : args[1]? = some xt) (hu : P.underlying st = some (.slice el)) (hxt : P.underlying xt = some d)
    (hd : (∃ e', d = .slice e') ∨ d = .string) (hz : 0 < P.cellsOf el) (hb : 0 < P.bytesOf el) {y0 : PV} (hy : zeroE P el = some y0) (hzz : z = P.cellsOf el ∨ z = 0) (hr : readS S (P.cellsOf el) x = some (m', ys, ks))
    (hroom : (xs.length + ys.length) * P.bytesOf el ≤ 140737488355328) (S' : Look) (hS : ∀ j, S' j = if k = j then some (.row (m && (m' || allScalar ys)) (P.cellsOf el) xs.length (xs ++ ys)) else S j) :
    ∃ u ρ' G' w', (Builtin.append_ args rt #[.slice A xs.length cap, v]).run P w = .ok u w' ∧ SInv ρ' G' B n0 w' S' ∧ Ext All B n0 ρ G w S ρ' G' w' S' ∧ RelV ρ' G' B n0 w' S' u (.row k (xs.length + ys.length)) := by
  have hrd := readS_sound (P := P) h hz hx hr
  obtain ⟨o1, _, o3⟩ := h.obj k _ hk
  have o2 : ρ k = none → xs = [] := fun e => by rw [e] at ht; exact ht.2.2
  have hev0 : (m && (m' || allScalar ys)) = true → m = true := fun e => by simp only [Bool.and_eq_true] at e; exact e.1
  have htk : (xs ++ ys).take lim = xs.take lim := List.take_append_of_le_length o1
  by_cases hin : xs.length + ys.length ≤ cap
  · obtain ⟨cx, us, r1, r2, r3⟩ := hrd.cells
    have hrun := run_append_in (rt := rt) h0 h1 hu hxt hd hz (A := A) (len := xs.length) (cap := cap) (n := ys.length) w hrd.len r1 hin
    cases hρ : ρ k with
    | none =>
      rw [hρ] at ht
      obtain ⟨rfl, rfl, hx0⟩ := ht
      subst hx0
      have hy0 : ys = [] := List.eq_nil_of_length_eq_zero (by simpa using hin)
      subst hy0
      have hmv := inv_move (ρ' := ρ) (G' := G) (p := none) (ob' := .row (m && (m' || allScalar [])) (P.cellsOf el) 0 []) (S' := S') h (Grew.refl w) hk (by simpa using hS)
        (fun j => by
          split
          · rename_i e; subst e; exact hρ
          · rfl) (fun b c e => by cases e) (fun b o => ⟨fun hg => .inl hg, fun hg => by
          rcases hg with hg | ⟨⟨c, hc, _⟩ | ⟨c, hc, _⟩, _⟩
          · exact hg
          · rw [hρ] at hc; cases hc
          · cases hc⟩) ⟨hev0, fun e => absurd rfl e, by simpa using o1, rfl, .inl ⟨rfl, hρ.symm⟩⟩ (fun _ => ⟨Nat.le_refl _, fun _ => .inl rfl, fun b c f hb => by rw [hρ] at hb; cases hb⟩)
      exact ⟨_, ρ, G, w, hrun, hmv.1, hmv.2, .row k _ none 0 (m && (m' || allScalar [])) (P.cellsOf el) 0 [] (by rw [hS, if_pos rfl]; rfl) (.inl ⟨rfl, by rw [hρ]; exact ⟨rfl, rfl, rfl⟩⟩)⟩
    | some p =>
      obtain ⟨b, c, f⟩ := p
      rw [hρ] at ht
      obtain ⟨rfl, rfl⟩ := ht
      obtain ⟨o4, o5, cells, T, fr, vs, o6, o7, o8, o9, o10⟩ := o3 b cap f hρ
      have hzz : z = P.cellsOf el := by omega
      subst hzz
      have hsum : xs.length * P.cellsOf el + ys.length * P.cellsOf el ≤ cap * P.cellsOf el := by
        rw [← Nat.add_mul]
        exact Nat.mul_le_mul_right _ hin
      obtain ⟨w', s1, s2, s3, ⟨cells', s4, s5⟩, s6, s7, s8⟩ := run_storeCellsV (P := P) cx.toList 0 w b (f + xs.length * P.cellsOf el) cells T fr o6 o7 (by simp; omega) (r3.plain hz r2)
      simp only [add_at] at hrun
      rw [s1, Result.andThen_ok] at hrun
      have hcsz : cells'.size = cells.size := by
        have := congrArg List.length s5
        simpa [putL_length] using this
      have hget : ∀ q, cells'[q]? = if f + xs.length * P.cellsOf el ≤ q ∧ q < f + xs.length * P.cellsOf el + ys.length * P.cellsOf el then cx[q - (f + xs.length * P.cellsOf el)]? else cells[q]? := fun q => by
        have h0 : cells'.toList[q]? = (putL cells.toList (f + xs.length * P.cellsOf el + 0) cx.toList)[q]? := by rw [s5]
        rw [Nat.add_zero, putL_get _ _ _ _ (by simp; omega)] at h0
        rw [show cx.toList.length = ys.length * P.cellsOf el by simpa using r2] at h0
        simpa using h0
      have hlz : lim * P.cellsOf el ≤ xs.length * P.cellsOf el := Nat.mul_le_mul_right _ o1
      have hrow : RowAt f G B w (m && (m' || allScalar ys)) (P.cellsOf el) cells' (xs ++ ys) (fun j => if j < xs.length then vs j else us (j - xs.length)) :=
        RowAt.append hz o10 r3 (fun i hi => by rw [hget, if_neg (by omega)]) (fun i hi => by rw [hget, if_pos (by omega), Nat.add_sub_cancel_left])
      have hold : RowAt f G B w m (P.cellsOf el) cells' xs vs := fun j x hj => by
        obtain ⟨q1, q2, q3⟩ := o10 j x hj
        refine ⟨q1, q2, fun i v hv => ?_⟩
        have hi : i < P.cellsOf el := by
          have := (Array.getElem?_eq_some_iff.1 hv).1
          have := q2.size
          omega
        have hj' : j < xs.length := (List.getElem?_eq_some_iff.1 hj).1
        have := idx_lt hj' hi
        rw [hget, if_neg (by omega)]
        exact q3 i v hv
      have hcellG : ∀ b' o, G b' o → (G b' o ∨ (b' = b ∧ o < f + xs.length * P.cellsOf el)) ∧ ∀ v, w.cell? ⟨b', o, none⟩ = some v → w'.cell? ⟨b', o, none⟩ = some v := fun b' o hg => ⟨.inl hg, fun v hv => by
        by_cases e : b' = b
        · subst e
          have := h.gobj k b' (cap, f) _ o hρ hk hg
          simp only [prot] at this
          rw [cell_of s4, hget, if_neg (by omega)]
          rw [cell_of o6] at hv
          exact hv
        · unfold World.cell? at *
          rw [s3 b' e]
          exact hv⟩
      have hset := inv_set (G' := fun b' o => G b' o ∨ (b' = b ∧ o < f + xs.length * P.cellsOf el)) (w' := w') (S' := S') (ob' := .row (m && (m' || allScalar ys)) (P.cellsOf el) xs.length (xs ++ ys)) h hk hρ hS s2 s3 s6 s7 s8
        (fun b' o hg => hg) (fun b' o hg => .inl hg) (fun o hg => by
          have := h.gobj k b (cap, f) _ o hρ hk hg
          simp only [prot] at this ⊢
          omega) (fun o v hg hv => (hcellG b o hg).2 v hv)
        ⟨hev0, fun _ => rfl, o1, htk, by
          by_cases hy0 : ys = []
          · subst hy0
            exact .inl ⟨by simp, rfl⟩
          · refine .inr ⟨?_, Nat.le_refl _, fun A' cap' ht' => ?_⟩
            · have := List.length_pos_iff.2 hy0
              simp; omega
            · rw [hρ] at ht'
              obtain ⟨rfl, rfl⟩ := ht'
              rw [List.take_append_of_le_length (Nat.le_refl _)]
              refine slice_rep (w := w') (B := B) (G := G) (mm := m) hz s4 (fun j x hj => ⟨(hold j x hj).1, (hold j x hj).2.1.mono fun b' o hb' => ⟨hb', (hcellG b' o hb'.1).2⟩, (hold j x hj).2.2⟩) (Nat.le_refl _) o5 (fun o _ ho => ⟨.inr ⟨rfl, ho⟩, fun hm => ?_⟩)
                (fun b' o hg => ⟨.inl hg.1, fun hm => hg.2 (by simp only [Bool.and_eq_true] at hm; exact hm.1.1)⟩)
              simp only [Bool.and_eq_true, decide_eq_true_eq] at hm
              exact h.newk k b _ hm.2 hρ⟩
        (fun hx' => ⟨by simp, fun hn => absurd (hρ.symm.trans hn) (by simp), fun b' c' f' hb' => by
          cases hρ.symm.trans hb'
          exact ⟨hz, by simpa using hin, cells', T, fr, _, s4, by rw [hcsz]; exact o7, by rw [hcsz]; exact o8, fun o _ ho => .inr ⟨rfl, ho⟩, fun j x hj => ⟨(hrow j x hj).1, (hrow j x hj).2.1.mono (hx'.gm _), (hrow j x hj).2.2⟩⟩⟩)
      exact ⟨_, ρ, _, w', hrun, hset.1, hset.2, .row k _ _ cap _ _ _ _ (by rw [hS, if_pos rfl]) (.inl ⟨by simp, by rw [hρ]; exact ⟨rfl, rfl⟩⟩)⟩
  · have hgr : Grew w { w with drawn := w.drawn + 1 } := ⟨Nat.le_refl _, fun _ _ => rfl, rfl, rfl, rfl⟩
    have hd1 := inv_grew h hgr
    have hdx : Ext All B n0 ρ G w S ρ G { w with drawn := w.drawn + 1 } S := ext_grew h hgr (fun _ _ h => h) (fun _ _ => rfl) (fun k b c hs hk => by rw [h.dom k hs] at hk; cases hk)
    have hrd2 := readS_sound (P := P) hd1 hz (hx.ext hdx) hr
    obtain ⟨cx, us, r1, r2, r3⟩ := hrd2.cells
    have hzold : ρ k = none ∨ z = P.cellsOf el := by
      cases hρ : ρ k with
      | none => exact .inl rfl
      | some p =>
        obtain ⟨b, c, f⟩ := p
        have := (o3 b c f hρ).1
        exact .inr (by omega)
    have hold : ∃ co vs, (Builtin.firstCells (P.cellsOf el) xs.length (.slice A xs.length cap)).run P { w with drawn := w.drawn + 1 } = .ok co { w with drawn := w.drawn + 1 } ∧ co.size = xs.length * P.cellsOf el ∧
        RowIs G B { w with drawn := w.drawn + 1 } m (P.cellsOf el) co xs vs := by
      have hrow : RelV ρ G B n0 { w with drawn := w.drawn + 1 } S (.slice A xs.length cap) (.row k xs.length) := .row k _ A cap m z lim xs hk (.inl ⟨rfl, ht⟩)
      have := readS_sound (P := P) (z := P.cellsOf el) (m := m) (xs := xs) (ks := [k]) hd1 hz hrow (by
        simp only [readS, hk]
        rw [if_pos]
        refine ⟨trivial, ?_⟩
        rcases hzold with e | e
        · exact .inr (o2 e)
        · exact .inl e)
      exact this.cells
    obtain ⟨co, vs, q1, q2, q3⟩ := hold
    obtain ⟨zv, zz, z1, z2, z3, z4, z5, z6⟩ := zeroE_sound hy w
    have hzero : ∀ w, (zeroValue el).run P w = .ok zv w := fun w2 => by
      obtain ⟨i, hi⟩ : ∃ i, P.info? el = some i := by
        cases hi : P.info? el with
        | none => simp [Program.cellsOf, hi] at hz
        | some i => exact ⟨i, rfl⟩
      have e1 : ∀ w, (zeroValue el).run P w = (match i.zero with | some v => .ok v w | none => .halt (.unsupported (.resourceLimit "a value of more than 2^22 cells")) w) := fun w => by
        simp only [zeroValue, Sem.run_bind, run_typeInfo w hi, Result.andThen_ok]
        cases i.zero <;> rfl
      rw [e1] at z1 ⊢
      cases hzi : i.zero with
      | none => rw [hzi] at z1; cases z1
      | some v => rw [hzi] at z1; cases z1; rfl
    obtain ⟨newCap, n1, n2⟩ := run_append_out (rt := rt) h0 h1 hu hxt hd hz hb (A := A) (len := xs.length) (cap := cap) (n := ys.length) (zero := zv) w hrd.len r1 q1 hzero (by omega) hroom
    have hyne : ys ≠ [] := by
      rintro rfl
      cases hρ : ρ k with
      | none => have := o2 hρ; subst this; simp at hin
      | some p =>
        obtain ⟨b, c, f⟩ := p
        rw [hρ] at ht
        obtain ⟨_, rfl⟩ := ht
        have := (o3 b cap f hρ).2.1
        simp at hin
        omega
    have hylen := List.length_pos_iff.2 hyne
    generalize hcl : co ++ cx ++ Builtin.zeroCells zv.cells (newCap - (xs.length + ys.length)) = nc at n2
    have hncs : nc.size = newCap * P.cellsOf el := by
      rw [← hcl]
      simp only [Array.size_append, Builtin.zeroCells, Array.size_map, Array.size_range, q2, r2, z2]
      rw [← Nat.add_mul, ← Nat.add_mul]
      congr 1
      omega
    have e1 : ∀ i, i < xs.length * P.cellsOf el → nc[i]? = co[i]? := fun i hi => by
      rw [← hcl, Array.append_assoc, Array.getElem?_append_left (by omega)]
    have e2 : ∀ i, i < ys.length * P.cellsOf el → nc[xs.length * P.cellsOf el + i]? = cx[i]? := fun i hi => by
      rw [← hcl, Array.append_assoc, Array.getElem?_append_right (by omega), q2, Nat.add_sub_cancel_left, Array.getElem?_append_left (by omega)]
    have hrow := RowIs.append (cells := nc) hz q3 r3 e1 e2
    have hgr2 : Grew w { w with drawn := w.drawn + 1, heap := w.heap.push (.cells nc el) } := .push rfl rfl rfl rfl
    have hgr3 : Grew { w with drawn := w.drawn + 1 } { w with drawn := w.drawn + 1, heap := w.heap.push (.cells nc el) } := .push rfl rfl rfl rfl
    have hmv := inv_move (ρ' := fun j => if k = j then some (w.heap.size, newCap, 0) else ρ j) (p := some (w.heap.size, newCap, 0)) (ob' := .row (m && (m' || allScalar ys)) (P.cellsOf el) xs.length (xs ++ ys)) (S' := S')
      (w' := { w with drawn := w.drawn + 1, heap := w.heap.push (.cells nc el) })
      (G' := fun b o => G b o ∨ ((∃ c, ρ k = some (b, c) ∧ prot c.2 (.row (m && (m' || allScalar ys)) (P.cellsOf el) xs.length (xs ++ ys)) o) ∨ (∃ c, some (w.heap.size, newCap, 0) = some (b, c) ∧ prot c.2 (.row (m && (m' || allScalar ys)) (P.cellsOf el) xs.length (xs ++ ys)) o)) ∧ b < w.heap.size + 1) h hgr2 hk hS (fun j => rfl)
      (fun b c e => by cases e; exact ⟨Nat.le_refl _, by simp⟩) (fun b o => by simp only [Array.size_push]) ⟨hev0, fun hne => by
        rcases hzold with e | e
        · exact absurd (o2 e) hne
        · exact e.symm, o1, htk, .inr ⟨by simp; omega, Nat.le_refl _, fun A' cap' ht' => by
          rw [List.take_append_of_le_length (Nat.le_refl _)]
          cases hρ : ρ k with
          | none => have := o2 hρ; subst this; exact .nil _ _
          | some p =>
            obtain ⟨b, c, f⟩ := p
            rw [hρ] at ht'
            obtain ⟨rfl, rfl⟩ := ht'
            obtain ⟨o4, o5, cells, T, fr, vs', o6, o7, o8, o9, o10⟩ := o3 b cap' f hρ
            have hze : z = P.cellsOf el := by
              rcases hzold with e | e
              · rw [e] at hρ; cases hρ
              · exact e
            subst hze
            have hbl := h.lt k b _ hρ
            refine slice_rep (w := { w with drawn := w.drawn + 1, heap := w.heap.push (.cells nc el) }) (B := B) (G := G) (mm := m) hz (by rw [hgr2.old b hbl]; exact o6)
              (fun j x hj => ⟨(o10 j x hj).1, (o10 j x hj).2.1.mono fun b' o hb' => ⟨hb', fun v hv => hgr2.cell b' o v hv⟩, (o10 j x hj).2.2⟩) (Nat.le_refl _) o5 (fun o _ ho => ⟨.inr ⟨.inl ⟨(cap', f), rfl, ho⟩, by omega⟩, fun hm => ?_⟩)
              (fun b' o hg => ⟨.inl hg.1, fun hm => hg.2 (by simp only [Bool.and_eq_true] at hm; exact hm.1.1)⟩)
            simp only [Bool.and_eq_true, decide_eq_true_eq] at hm
            exact h.newk k b _ hm.2 hρ⟩⟩
      (fun hx' => ⟨by simp, fun hn => by simp at hn, fun b' c' f' hb' => by
        simp at hb'
        obtain ⟨rfl, rfl, rfl⟩ := hb'
        refine ⟨hz, by simpa using n1, nc, el, (0, 0), _, by rw [Array.getElem?_push, if_pos rfl], (.inl rfl), by rw [hncs, Nat.zero_add], fun o _ ho => .inr ⟨.inr ⟨(newCap, 0), rfl, ho⟩, by simp⟩, fun j x hj => ⟨(hrow j x hj).1, ?_, fun i v hv => by rw [Nat.zero_add]; exact (hrow j x hj).2.2 i v hv⟩⟩
        exact (hrow j x hj).2.1.mono fun b' o hb' => ⟨⟨.inl hb'.1, hb'.2⟩, fun v hv => hgr3.cell b' o v hv⟩⟩)
    exact ⟨_, _, _, _, n2, hmv.1, hmv.2, .row k _ _ newCap _ _ _ _ (by rw [hS, if_pos rfl]) (.inl ⟨by simp, by simp [Tie]⟩)⟩

end
end Go.Proofs.YticdhmcbooabaaaDoor.V
