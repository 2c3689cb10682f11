/- V25: structs and arrays of numbers and bools that are compared. No claim. -/
import Derived.Test.YticdhmcbooabaaaDoor24
import Derived.DeepKeys3
set_option linter.unusedVariables false
set_option linter.unusedSimpArgs false
namespace Go.Proofs.YticdhmcbooabaaaDoor.V
open Go

section
variable {P : Program}

/-- The kinds of a type's cells, where these are numbers and bools alone. -/
def kindsF (kt : TypeId → Option (List Kc)) (P : Program) : Nat → List Field → Option (List Kc)
  | _, [] => some []
  | off, f :: r => match kt f.type with
    | some k => if f.name ≠ "_" ∧ f.offset = off ∧ P.cellsOf f.type = k.length then match kindsF kt P (off + k.length) r with
        | some l => some (k ++ l)
        | none => none
      else none
    | none => none

def kindsI (k : List Kc) : Nat → List Kc
  | 0 => []
  | n + 1 => k ++ kindsI k n

def kindsAt (P : Program) : Nat → TypeId → Option (List Kc)
  | 0, _ => none
  | d + 1, t => match P.underlying t with
    | some .bool => some [.bool]
    | some (.int k) => some [.int k]
    | some (.array n e) => match kindsAt P d e with
      | some k => if P.cellsOf e = k.length then some (kindsI k n) else none
      | none => none
    | some (.struct fs) => if P.stoodInHeld t = false then kindsF (kindsAt P d) P 0 fs.toList else none
    | _ => none

theorem hasKs_len : ∀ {ks : List Kc} {l : List Value}, HasKs ks l → l.length = ks.length := by
  intro ks
  induction ks with
  | nil => intro l h; cases l <;> simp_all [HasKs]
  | cons k r ih =>
    intro l h
    cases l with
    | nil => cases k <;> simp [HasKs] at h
    | cons v l =>
      have : HasKs r l := by cases k <;> cases v <;> simp [HasKs] at h <;> first | exact h.2 | exact h
      simp [ih this]

theorem hasKs_cut : ∀ {k1 k2 : List Kc} {l : List Value}, HasKs (k1 ++ k2) l → HasKs k1 (l.take k1.length) ∧ HasKs k2 (l.drop k1.length) := by
  intro k1
  induction k1 with
  | nil => intro k2 l h; exact ⟨trivial, by simpa using h⟩
  | cons k r ih =>
    intro k2 l h
    cases l with
    | nil => cases k <;> simp [HasKs] at h
    | cons v l =>
      have hr : HasKs (r ++ k2) l := by cases k <;> cases v <;> simp [HasKs] at h <;> first | exact h.2 | exact h
      obtain ⟨i1, i2⟩ := ih hr
      refine ⟨?_, by simpa using i2⟩
      simp only [List.length_cons, List.take_succ_cons]
      cases k <;> cases v <;> simp [HasKs] at h ⊢ <;> first | exact ⟨h.1, i1⟩ | exact i1

theorem eqVs_cut : ∀ {k1 : List Kc} {l m : List Value}, HasKs k1 (l.take k1.length) → HasKs k1 (m.take k1.length) →
    eqVs l m = (eqVs (l.take k1.length) (m.take k1.length) && eqVs (l.drop k1.length) (m.drop k1.length)) := by
  intro k1
  induction k1 with
  | nil => intro l m _ _; simp [eqVs]
  | cons k r ih =>
    intro l m hl hm
    cases l with
    | nil => cases k <;> simp [HasKs] at hl
    | cons v l =>
      cases m with
      | nil => cases k <;> simp [HasKs] at hm
      | cons u m =>
        simp only [List.length_cons, List.take_succ_cons, List.drop_succ_cons] at hl hm ⊢
        have hl' : HasKs r (l.take r.length) := by cases k <;> cases v <;> simp [HasKs] at hl <;> first | exact hl.2 | exact hl
        have hm' : HasKs r (m.take r.length) := by cases k <;> cases u <;> simp [HasKs] at hm <;> first | exact hm.2 | exact hm
        have := ih hl' hm'
        cases k <;> cases v <;> simp [HasKs] at hl <;> cases u <;> simp [HasKs] at hm <;> simp only [eqVs, this, Bool.and_assoc]

theorem kinds_cells {d : Nat} {e : TypeId} {k : List Kc} (hk : kindsAt P d e = some k) : ∃ u, P.underlying e = some u := by
  cases d with
  | zero => simp [kindsAt] at hk
  | succ d =>
    unfold kindsAt at hk
    cases hu : P.underlying e with
    | none => simp [hu] at hk
    | some u => exact ⟨u, rfl⟩

/-- A part of those cells. -/
theorem part_k (w : World) {d : Nat} {e : TypeId} {k : List Kc} (hk : kindsAt P d e = some k) (hc : P.cellsOf e = k.length) {off : Nat} {xs : Array Value} (h : HasKs k ((xs.toList.drop off).take k.length)) :
    ∃ a, (part e xs off).run P w = .ok a w ∧ a.formed P e = true ∧ a.cells.toList = (xs.toList.drop off).take k.length := by
  cases d with
  | zero => simp [kindsAt] at hk
  | succ d =>
    have hlen := hasKs_len h
    have agg : (∃ n e', P.underlying e = some (.array n e')) ∨ (∃ fs, P.underlying e = some (.struct fs)) → ∃ a, (part e xs off).run P w = .ok a w ∧ a.formed P e = true ∧ a.cells.toList = (xs.toList.drop off).take k.length := by
      intro hka
      have hu' : ∃ u, P.underlying e = some u := by rcases hka with ⟨n, e', h⟩ | ⟨fs, h⟩ <;> exact ⟨_, h⟩
      obtain ⟨u, hu⟩ := hu'
      obtain ⟨i, hi⟩ := info_of_underlying hu
      have hl : (xs.extract off (off + P.cellsOf e)).toList = (xs.toList.drop off).take k.length := by
        rw [Array.toList_extract, hc]
        simp [List.extract]
      refine ⟨.agg (xs.extract off (off + P.cellsOf e)), ?_, ?_, hl⟩
      · rcases hka with ⟨n, e', hu⟩ | ⟨fs, hu⟩ <;> simp [part, isAgg, run_underlying hu, run_sizeOf w hi]
      · have hs : (xs.extract off (off + P.cellsOf e)).size = P.cellsOf e := by rw [← Array.length_toList, hl, hlen, hc]
        rcases hka with ⟨n, e', hu⟩ | ⟨fs, hu⟩ <;> simp [Value.formed, hu, hs]
    unfold kindsAt at hk
    cases hu : P.underlying e with
    | none => simp [hu] at hk
    | some u =>
      cases u with
      | bool =>
        simp only [hu, Option.some.injEq] at hk
        subst hk
        have : ∃ b, (xs.toList.drop off).take 1 = [.bool b] := by
          generalize (xs.toList.drop off).take 1 = l at h
          match l, h with
          | [.bool b], _ => exact ⟨b, rfl⟩
        obtain ⟨b, hb⟩ := this
        exact ⟨.bool b, run_part_plain w (by simp [Program.plainKey, hu]) (getElem?_of_chunk hb), by simp [Value.formed, hu], hb.symm⟩
      | int q =>
        simp only [hu, Option.some.injEq] at hk
        subst hk
        have : ∃ n, (xs.toList.drop off).take 1 = [.int q n] := by
          generalize (xs.toList.drop off).take 1 = l at h
          match l, h with
          | [.int q' n], h => exact ⟨n, by rw [h.1]⟩
        obtain ⟨n, hb⟩ := this
        exact ⟨.int q n, run_part_plain w (by simp [Program.plainKey, hu]) (getElem?_of_chunk hb), by simp [Value.formed, hu], hb.symm⟩
      | array n e' => exact agg (.inl ⟨n, e', hu⟩)
      | struct fs => exact agg (.inr ⟨fs, hu⟩)
      | _ => simp [hu] at hk

def EqK (P : Program) (dd : Nat) (t : TypeId) (k : List Kc) : Prop := ∀ (w : World) (a b : Value), a.formed P t = true → b.formed P t = true → HasKs k a.cells.toList → HasKs k b.cells.toList →
    (Op.equalIn dd t a b).run P w = .ok (eqVs a.cells.toList b.cells.toList) w

theorem eqFields_k (w : World) (dd d : Nat) (hE : ∀ t k, kindsAt P d t = some k → EqK P dd t k) (xs ys : Array Value) : ∀ (fs : List Field) (off : Nat) (k : List Kc), kindsF (kindsAt P d) P off fs = some k →
    HasKs k (xs.toList.drop off) → HasKs k (ys.toList.drop off) → (Op.eqFields dd xs ys fs).run P w = .ok (eqVs (xs.toList.drop off) (ys.toList.drop off)) w := by
  intro fs
  induction fs with
  | nil =>
    intro off k hk hx hy
    cases hk
    have e1 : xs.toList.drop off = [] := List.length_eq_zero_iff.1 (hasKs_len hx)
    have e2 : ys.toList.drop off = [] := List.length_eq_zero_iff.1 (hasKs_len hy)
    rw [e1, e2]
    simp [Op.eqFields, eqVs]
  | cons f r ih =>
    intro off k hk hx hy
    simp only [kindsF] at hk
    split at hk
    · rename_i k1 hk1
      split at hk
      · rename_i hc
        obtain ⟨hn, ho, hl⟩ := hc
        split at hk
        · rename_i k2 hk2
          cases hk
          obtain ⟨x1, x2⟩ := hasKs_cut hx
          obtain ⟨y1, y2⟩ := hasKs_cut hy
          rw [eqVs_cut x1 y1]
          subst ho
          obtain ⟨a, p1, f1, c1⟩ := part_k w hk1 hl x1
          obtain ⟨b, p2, f2, c2⟩ := part_k w hk1 hl y1
          have he := hE _ _ hk1 w a b f1 f2 (by rw [c1]; exact x1) (by rw [c2]; exact y1)
          rw [c1, c2] at he
          rw [List.drop_drop] at x2 y2
          have hr := ih (f.offset + k1.length) k2 hk2 x2 y2
          simp only [Op.eqFields, hn, ne_eq, not_false_eq_true, if_true, Sem.run_bind, p1, p2, he, Result.andThen_ok, List.drop_drop]
          generalize eqVs (List.take k1.length (List.drop f.offset xs.toList)) (List.take k1.length (List.drop f.offset ys.toList)) = r1
          cases r1
          · simp
          · simpa using hr
        · cases hk
      · cases hk
    · cases hk

theorem eqItems_k (w : World) (dd : Nat) {e : TypeId} {k : List Kc} {d : Nat} (hk : kindsAt P d e = some k) (hc : P.cellsOf e = k.length) (hE : EqK P dd e k) (xs ys : Array Value) : ∀ (n i : Nat),
    HasKs (kindsI k n) (xs.toList.drop (i * k.length)) → HasKs (kindsI k n) (ys.toList.drop (i * k.length)) →
    (Op.eqItems dd e (P.cellsOf e) xs ys (List.range' i n)).run P w = .ok (eqVs (xs.toList.drop (i * k.length)) (ys.toList.drop (i * k.length))) w := by
  intro n
  induction n with
  | zero =>
    intro i hx hy
    have e1 : xs.toList.drop (i * k.length) = [] := List.length_eq_zero_iff.1 (hasKs_len hx)
    have e2 : ys.toList.drop (i * k.length) = [] := List.length_eq_zero_iff.1 (hasKs_len hy)
    rw [e1, e2]
    simp [Op.eqItems, eqVs]
  | succ n ih =>
    intro i hx hy
    obtain ⟨x1, x2⟩ := hasKs_cut hx
    obtain ⟨y1, y2⟩ := hasKs_cut hy
    rw [eqVs_cut x1 y1]
    obtain ⟨a, p1, f1, c1⟩ := part_k w hk hc x1
    obtain ⟨b, p2, f2, c2⟩ := part_k w hk hc y1
    have he := hE w a b f1 f2 (by rw [c1]; exact x1) (by rw [c2]; exact y1)
    rw [c1, c2] at he
    have hs : i * k.length + k.length = (i + 1) * k.length := (Nat.succ_mul i k.length).symm
    rw [List.drop_drop, hs] at x2 y2
    have hr := ih (i + 1) x2 y2
    rw [List.range'_succ]
    rw [hc] at hr ⊢
    simp only [Op.eqItems, Sem.run_bind, p1, p2, he, Result.andThen_ok, List.drop_drop, hs]
    generalize eqVs (List.take k.length (List.drop (i * k.length) xs.toList)) (List.take k.length (List.drop (i * k.length) ys.toList)) = r1
    cases r1
    · simp
    · simpa using hr

theorem equal_k (dd : Nat) : ∀ (d : Nat) (t : TypeId) (k : List Kc), kindsAt P d t = some k → EqK P (dd + d) t k := by
  intro d
  induction d with
  | zero => intro t k h; simp [kindsAt] at h
  | succ d ih =>
    intro t k hk w a b fa fb ha hb
    unfold kindsAt at hk
    rw [show dd + (d + 1) = (dd + d) + 1 from rfl]
    cases hu : P.underlying t with
    | none => simp [hu] at hk
    | some u =>
      cases u with
      | bool =>
        simp only [hu, Option.some.injEq] at hk
        subst hk
        cases a <;> first | (exfalso; simp [Value.formed, hu] at fa; done) | (exfalso; simp [Value.cells, HasKs] at ha; done) | skip
        cases b <;> first | (exfalso; simp [Value.formed, hu] at fb; done) | (exfalso; simp [Value.cells, HasKs] at hb; done) | skip
        simp only [Op.equalIn, Sem.run_bind, run_underlying hu, Result.andThen_ok, Sem.run_pure]
        simp [Value.cells, eqVs]
      | int q =>
        simp only [hu, Option.some.injEq] at hk
        subst hk
        cases a <;> first | (exfalso; simp [Value.formed, hu] at fa; done) | (exfalso; simp [Value.cells, HasKs] at ha; done) | skip
        cases b <;> first | (exfalso; simp [Value.formed, hu] at fb; done) | (exfalso; simp [Value.cells, HasKs] at hb; done) | skip
        simp [Value.cells, HasKs] at ha hb
        subst ha hb
        simp only [Op.equalIn, Sem.run_bind, run_underlying hu, Result.andThen_ok, if_true, Sem.run_pure]
        simp [Value.cells, eqVs]
      | array n e =>
        simp only [hu] at hk
        cases hke : kindsAt P d e with
        | none => simp [hke] at hk
        | some k1 =>
          simp only [hke] at hk
          split at hk
          · rename_i hc
            cases hk
            cases a <;> simp only [Value.formed, hu, Bool.false_eq_true] at fa
            cases b <;> simp only [Value.formed, hu, Bool.false_eq_true] at fb
            rename_i xs ys
            obtain ⟨ue, hue⟩ := kinds_cells hke
            obtain ⟨i, hi⟩ := info_of_underlying hue
            rw [run_equalIn_array w (dd + d) xs ys hu hi, List.range_eq_range']
            have := eqItems_k w (dd + d) hke hc (ih e k1 hke) xs ys n 0 (by simpa [Value.cells] using ha) (by simpa [Value.cells] using hb)
            simpa [Value.cells] using this
          · cases hk
      | struct fs =>
        simp only [hu] at hk
        split at hk
        · rename_i hst
          cases a <;> simp only [Value.formed, hu, Bool.false_eq_true] at fa
          cases b <;> simp only [Value.formed, hu, Bool.false_eq_true] at fb
          rename_i xs ys
          have hfs : P.fieldsOf t = fs := by simp [Program.fieldsOf, hu]
          rw [run_equalIn_struct w (dd + d) t xs ys (by rw [hfs]; exact hu) hst, hfs]
          have := eqFields_k w (dd + d) d (fun t k h => ih t k h) xs ys fs.toList 0 k hk (by simpa [Value.cells] using ha) (by simpa [Value.cells] using hb)
          simpa [Value.cells] using this
        · cases hk
      | _ => simp [hu] at hk

def CheckK (P : Program) (em : Bool) (dd : Nat) (t : TypeId) (k : List Kc) : Prop := ∀ (w : World) (a : Value), a.formed P t = true → HasKs k a.cells.toList → (Instr.checkKey em dd t a).run P w = .ok () w

theorem check_k (em : Bool) (dd : Nat) : ∀ (d : Nat) (t : TypeId) (k : List Kc), kindsAt P d t = some k → CheckK P em (dd + d) t k := by
  intro d
  induction d with
  | zero => intro t k h; simp [kindsAt] at h
  | succ d ih =>
    intro t k hk w a fa ha
    unfold kindsAt at hk
    rw [show dd + (d + 1) = (dd + d) + 1 from rfl]
    cases hu : P.underlying t with
    | none => simp [hu] at hk
    | some u =>
      cases u with
      | bool => simp [Instr.checkKey, Sem.run_bind, run_underlying hu, Result.andThen_ok]
      | int q => simp [Instr.checkKey, Sem.run_bind, run_underlying hu, Result.andThen_ok]
      | array n e =>
        simp only [hu] at hk
        cases hke : kindsAt P d e with
        | none => simp [hke] at hk
        | some k1 =>
          simp only [hke] at hk
          split at hk
          · rename_i hc
            cases hk
            cases a <;> simp only [Value.formed, hu, Bool.false_eq_true] at fa
            rename_i xs
            obtain ⟨ue, hue⟩ := kinds_cells hke
            obtain ⟨i, hi⟩ := info_of_underlying hue
            have IH := ih e k1 hke
            rw [Instr.checkKey]
            simp only [Sem.run_bind, run_underlying hu, Result.andThen_ok]
            simp only [Std.Legacy.Range.forIn_eq_forIn_range', Std.Legacy.Range.size, Nat.sub_zero, Nat.add_one_sub_one, Nat.div_one]
            have key : ∀ (n i0 : Nat), HasKs (kindsI k1 n) (xs.toList.drop (i0 * k1.length)) →
                ((forIn (List.range' i0 n) PUnit.unit fun i r => do
                  Instr.checkKey em (dd + d) e (← part e xs (i * (← sizeOf e)))
                  pure (ForInStep.yield PUnit.unit) : Sem PUnit)).run P w = .ok PUnit.unit w := by
              intro n
              induction n with
              | zero => intro i0 _; simp
              | succ n ihn =>
                intro i0 hx
                obtain ⟨x1, x2⟩ := hasKs_cut hx
                obtain ⟨v, p1, f1, c1⟩ := part_k w hke hc x1
                have p2 := IH w v f1 (by rw [c1]; exact x1)
                have hs : i0 * k1.length + k1.length = (i0 + 1) * k1.length := (Nat.succ_mul i0 k1.length).symm
                rw [List.drop_drop, hs] at x2
                rw [List.range'_succ]
                simp only [List.forIn_cons, Sem.run_bind, run_sizeOf w hi, Result.andThen_ok, hc, p1, p2, Sem.run_pure]
                have := ihn (i0 + 1) x2
                simpa only [Sem.run_bind, run_sizeOf w hi, Result.andThen_ok, hc] using this
            have := key n 0 (by simpa [Value.cells] using ha)
            simp at this ⊢
            rw [this]
            rfl
          · cases hk
      | struct fs =>
        simp only [hu] at hk
        split at hk
        · rename_i hst
          cases a <;> simp only [Value.formed, hu, Bool.false_eq_true] at fa
          rename_i xs
          rw [Instr.checkKey]
          simp only [Sem.run_bind, run_underlying hu, Result.andThen_ok]
          rw [← Array.forIn_toList]
          have key : ∀ (fs : List Field) (off : Nat) (k : List Kc), kindsF (kindsAt P d) P off fs = some k → HasKs k (xs.toList.drop off) →
              ((forIn fs PUnit.unit fun f r => do
                if f.name ≠ "_" then Instr.checkKey em (dd + d) f.type (← part f.type xs f.offset)
                pure (ForInStep.yield PUnit.unit) : Sem PUnit)).run P w = .ok PUnit.unit w := by
            intro fs
            induction fs with
            | nil => intro off k _ _; simp
            | cons f r ihr =>
              intro off k hk hx
              simp only [kindsF] at hk
              split at hk
              · rename_i k1 hk1
                split at hk
                · rename_i hc
                  obtain ⟨hn, ho, hl⟩ := hc
                  split at hk
                  · rename_i k2 hk2
                    cases hk
                    subst ho
                    obtain ⟨x1, x2⟩ := hasKs_cut hx
                    obtain ⟨v, p1, f1, c1⟩ := part_k w hk1 hl x1
                    have p2 := ih _ _ hk1 w v f1 (by rw [c1]; exact x1)
                    rw [List.drop_drop] at x2
                    simp only [List.forIn_cons, Sem.run_bind, hn, ne_eq, not_false_eq_true, if_true, Result.andThen_ok, p1, p2, Sem.run_pure]
                    exact ihr _ _ hk2 x2
                  · cases hk
                · cases hk
              · cases hk
          have := key fs.toList 0 k hk (by simpa [Value.cells] using ha)
          simp at this ⊢
          rw [this]
          rfl
        · cases hk
      | _ => simp [hu] at hk

/-- What is asked of such a type: the kernel reckons it. -/
theorem eqOk_of {t : TypeId} {ks : List Kc} (h1 : kindsAt P 9 t = some ks) (h2 : P.cellsOf t = ks.length) (h3 : isAggT P t = true) (h4 : P.eqGuardType P.depth t = false) : EqOk P t ks := by
  have form : ∀ xs : Array Value, HasKs ks xs.toList → (Value.agg xs).formed P t = true := by
    intro xs hx
    have hl : xs.size = P.cellsOf t := by rw [h2, ← hasKs_len hx]; simp
    unfold isAggT at h3
    split at h3
    · rename_i fs hu; simp [Value.formed, hu, hl]
    · rename_i n e hu; simp [Value.formed, hu, hl]
    · cases h3
  refine ⟨h4, fun w xs ys hx hy => ?_, fun w em xs hx => ?_⟩
  · have := equal_k 9991 9 t ks h1 w (.agg xs) (.agg ys) (form xs hx) (form ys hy) (by simpa [Value.cells] using hx) (by simpa [Value.cells] using hy)
    simpa [Value.cells] using this
  · exact check_k em 9991 9 t ks h1 w (.agg xs) (form xs hx) (by simpa [Value.cells] using hx)
end
end Go.Proofs.YticdhmcbooabaaaDoor.V
