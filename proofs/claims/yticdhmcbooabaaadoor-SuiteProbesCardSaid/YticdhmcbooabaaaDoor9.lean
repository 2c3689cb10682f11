/- V9: maps and iterators, whole operations. No claim. -/
import Derived.Test.YticdhmcbooabaaaDoor8
set_option linter.unusedVariables false
set_option linter.unusedSimpArgs false
namespace Go.Proofs.YticdhmcbooabaaaDoor.V
open Go

section
variable {B n0 : Nat} {ρ : Emb} {G : Cs} {w : World} {S : Look} {P : Program} {E : Env}

theorem run_getObj_map {b : Nat} {en : Array MapEntry} {clock : Nat} (h : w.heap[b]? = some (.map en clock)) : (getObj b).run P w = .ok (.map en clock) w := by
  simp [getObj, Sem.run, h]

theorem rel_pair {ok : Bool} {s : SV} {is : Bool} {v : Value} (hv : RelV ρ G B n0 w S v s) : RelV ρ G B n0 w S (if ok then .tuple #[v, .bool is] else v) (pairV ok s is) := by
  unfold pairV
  cases ok with
  | false => exact hv
  | true =>
    refine .tuple _ _ rfl fun i u c hu hc => ?_
    match i with
    | 0 => simp at hu hc; subst hu hc; exact hv
    | 1 => simp at hu hc; subst hu hc; exact .pure _ _ _ (.bool _)
    | n + 2 => simp at hu

theorem lookup_sound (hE : EnvEq P E) (h : SInv ρ G B n0 w S) {t : TypeId} {v u : Value} {x i : SV} {ok : Bool} (hv : RelV ρ G B n0 w S v x) (hi : RelV ρ G B n0 w S u i) {e : Eff} (he : lookupV P E S t x i ok = some e) :
    Comes1 P B n0 ρ G w S (Instr.lookup t v u ok) e := by
  unfold lookupV at he
  split at he
  · rename_i kt et mi key hu
    split at he
    · rename_i hkt
      split at he
      · rename_i y hy
        obtain ⟨zv, zz, z1, z2, z3, z4, z5, z6⟩ := zeroE_sound hy w
        cases hi with
        | pure _ _ _ hi =>
          have hck := (keyT_run (w := w) hE hkt hi).1
          -- a map that is there
          have key : ∀ {α : Type} {es : List (PV × α)} {en : Array MapEntry} {clock b : Nat} {r : Option α} (val : α → SV), v = .map (some b) → w.heap[b]? = some (.map en clock) → en.size = es.length →
              (∀ (i : Nat) e p, en[i]? = some e → es[i]? = some p → RepV G w e.key p.1 ∧ RelV ρ G B n0 w S e.val (val p.2)) → mapFind key es = some r → ∀ ks,
              e = { res := (match r with | some a => pairV ok (val a) true | none => pairV ok (.pure true y) false), rd := ks } → Comes1 P B n0 ρ G w S (Instr.lookup t v u ok) e := by
            intro α es en clock b r val hveq hh hsz hrel hf ks hee
            subst hveq hee
            obtain ⟨q, f1, f2⟩ := findKey_sound hE hkt (hi.weaken fun b o hb => hb.1) (en := en.toList) (by simpa using hsz) (fun i e p he hp => (hrel i e p (by simpa using he) hp).1) hf w
            cases r with
            | none =>
              obtain ⟨rfl, _⟩ := f2
              refine Comes1.still h (u := if ok then .tuple #[zv, .bool false] else zv) ?_ rfl (rel_pair (.pure _ _ _ (zeroE_val hy z1 _ _)))
              unfold Instr.lookup
              simp only [Sem.run_bind, run_underlying hu, Result.andThen_ok, run_getObj_map hh, Sem.run_pure, hck, f1, z1]
            | some a =>
              obtain ⟨j, e', k', rfl, d2, d3, d4, d5⟩ := f2
              refine Comes1.still h (u := if ok then .tuple #[e'.val, .bool true] else e'.val) ?_ rfl (rel_pair (hrel j e' _ (by simpa using d2) d3).2)
              unfold Instr.lookup
              simp only [Sem.run_bind, run_underlying hu, Result.andThen_ok, run_getObj_map hh, Sem.run_pure, hck, f1]
          split at he
          · rename_i k
            cases hv with
            | map _ b c ob hk hr hb =>
              rw [hk] at he
              cases ob with
              | map m es =>
                simp only at he
                obtain ⟨b', c', en, clock, o1, o2, o3, o4⟩ := h.obj k _ hk
                rw [hb] at o1
                cases o1
                split at he
                · rename_i a hf
                  simp only [Option.some.injEq] at he
                  exact key (val := SV.pure m) rfl o2 o3 (fun i e p he hp => ⟨(o4 i e p he hp).1.weaken fun b o hb => hb.1, .pure _ _ _ (o4 i e p he hp).2.2⟩) hf _ he.symm
                · rename_i hf
                  simp only [Option.some.injEq] at he
                  exact key (val := SV.pure m) rfl o2 o3 (fun i e p he hp => ⟨(o4 i e p he hp).1.weaken fun b o hb => hb.1, .pure _ _ _ (o4 i e p he hp).2.2⟩) hf _ he.symm
                · cases he
              | maps es =>
                simp only at he
                obtain ⟨b', c', en, clock, o1, o2, o3, o4⟩ := h.obj k _ hk
                rw [hb] at o1
                cases o1
                split at he
                · rename_i a hf
                  simp only [Option.some.injEq] at he
                  exact key (val := fun s => s) rfl o2 o3 (fun i e p he hp => ⟨(o4 i e p he hp).1, (o4 i e p he hp).2.2⟩) hf _ he.symm
                · rename_i hf
                  simp only [Option.some.injEq] at he
                  exact key (val := fun s => s) rfl o2 o3 (fun i e p he hp => ⟨(o4 i e p he hp).1, (o4 i e p he hp).2.2⟩) hf _ he.symm
                · cases he
              | _ => simp at he
          · simp only [Option.some.injEq] at he
            subst he
            cases hv with
            | pure _ _ _ hv =>
              cases hv
              refine Comes1.still h (u := if ok then .tuple #[zv, .bool false] else zv) ?_ rfl (rel_pair (.pure _ _ _ (zeroE_val hy z1 _ _)))
              unfold Instr.lookup
              simp only [Sem.run_bind, run_underlying hu, Result.andThen_ok, Sem.run_pure, hck, Instr.findKey]
              obtain ⟨d, hd⟩ : ∃ d, P.underlying kt = some d := by
                unfold keyT at hkt
                cases hd : P.underlying kt with
                | none => rw [hd] at hkt; simp at hkt
                | some d => exact ⟨d, rfl⟩
              simp [Sem.run_bind, run_underlying hd, Instr.findNow, z1]
          · cases he
      · cases he
    · cases he
  · cases he

/-! ### a map that is written -/
theorem mapFind_at {α : Type} {key : PV} {es : List (PV × α)} {a : α} (h : mapFind key es = some (some a)) :
    ∃ j k', es[j]? = some (k', a) ∧ whereK key es = some j ∧ key.isAgg = k'.isAgg ∧ eqCells key.cells k'.cells = some true := by
  induction es with
  | nil => simp [mapFind] at h
  | cons p es ih =>
    obtain ⟨k, b⟩ := p
    simp only [mapFind] at h
    split at h
    · rename_i hag
      split at h
      · rename_i heq
        simp only [Option.some.injEq] at h
        subst h
        exact ⟨0, k, rfl, by simp only [whereK, heq], hag, heq⟩
      · rename_i heq
        obtain ⟨j, k', h1, h2, h3, h4⟩ := ih h
        exact ⟨j + 1, k', by simpa using h1, by simp only [whereK, heq, h2]; rfl, h3, h4⟩
      · cases h
    · cases h

theorem mapPut_set {α : Type} {key : PV} {v : α} {es : List (PV × α)} : ∀ {j : Nat}, whereK key es = some j → mapPut key v es = es.set j (key, v) := by
  induction es with
  | nil => intro j h; simp [whereK] at h
  | cons p es ih =>
    intro j h
    obtain ⟨k, b⟩ := p
    simp only [whereK] at h
    simp only [mapPut]
    split at h
    · rename_i heq
      simp only [Option.some.injEq] at h
      subst h
      simp [heq]
    · rename_i hne
      cases hw : whereK key es with
      | none => simp [hw] at h
      | some i =>
        simp [hw] at h
        subst h
        split
        · rename_i heq; exact absurd heq hne
        · rw [ih hw]; rfl

theorem mapPut_push {α : Type} {key : PV} {v : α} {es : List (PV × α)} (h : whereK key es = none) : mapPut key v es = es ++ [(key, v)] := by
  induction es with
  | nil => rfl
  | cons p es ih =>
    obtain ⟨k, b⟩ := p
    simp only [whereK] at h
    simp only [mapPut]
    split at h
    · cases h
    · rename_i hne
      split
      · rename_i heq; exact absurd heq hne
      · rw [ih (by simpa using h)]; rfl

/-- A cell of a plain kind. -/
def KindV : Value → Prop
  | .int .. | .bool _ | .string _ => True
  | _ => False

theorem eqCells_same {G G' : Cs} {w w' : World} {as : List PV} : ∀ {bs : List PV} {xs ys : List Value}, eqCells as bs = some true → xs.length = as.length → ys.length = bs.length →
    (∀ (i : Nat) v c, xs[i]? = some v → as[i]? = some c → RepV G w v c) → (∀ (i : Nat) v c, ys[i]? = some v → bs[i]? = some c → RepV G' w' v c) → xs = ys ∧ ∀ v ∈ xs, KindV v := by
  induction as with
  | nil =>
    intro bs xs ys h hx hy _ _
    cases bs with
    | nil =>
      have h1 := List.eq_nil_of_length_eq_zero hx
      have h2 := List.eq_nil_of_length_eq_zero hy
      subst h1 h2
      exact ⟨rfl, by simp⟩
    | cons b bs => simp [eqCells] at h
  | cons a as ih =>
    intro bs xs ys h hx hy rx ry
    cases bs with
    | nil => cases a <;> simp [eqCells] at h
    | cons b bs =>
      cases xs with
      | nil => simp at hx
      | cons x xs =>
        cases ys with
        | nil => simp at hy
        | cons y ys =>
          have key : eqCells as bs = some true → x = y → KindV x → x :: xs = y :: ys ∧ ∀ v ∈ x :: xs, KindV v := by
            intro h1 h2 h3
            obtain ⟨i1, i2⟩ := ih h1 (by simpa using hx) (by simpa using hy) (fun i v c hv hc => rx (i + 1) v c (by simpa using hv) (by simpa using hc)) (fun i v c hv hc => ry (i + 1) v c (by simpa using hv) (by simpa using hc))
            refine ⟨by rw [h2, i1], fun v hv => ?_⟩
            rcases List.mem_cons.1 hv with rfl | hv
            · exact h3
            · exact i2 v hv
          have r0 := rx 0 x a rfl rfl
          have r1 := ry 0 y b rfl rfl
          cases a with
          | int k n =>
            cases b with
            | int k' n' =>
              simp only [eqCells] at h
              split at h
              · rename_i hk
                subst hk
                split at h
                · rename_i t ht
                  simp only [Option.some.injEq, Bool.and_eq_true, decide_eq_true_eq] at h
                  obtain ⟨rfl, rfl⟩ := h
                  cases r0
                  cases r1
                  exact key ht rfl trivial
                · cases h
              · cases h
            | _ => simp [eqCells] at h
          | bool n =>
            cases b with
            | bool n' =>
              simp only [eqCells] at h
              split at h
              · rename_i t ht
                simp only [Option.some.injEq, Bool.and_eq_true, decide_eq_true_eq] at h
                obtain ⟨rfl, rfl⟩ := h
                cases r0
                cases r1
                exact key ht rfl trivial
              · cases h
            | _ => simp [eqCells] at h
          | str n =>
            cases b with
            | str n' =>
              simp only [eqCells] at h
              split at h
              · rename_i t ht
                simp only [Option.some.injEq, Bool.and_eq_true, decide_eq_true_eq] at h
                obtain ⟨h, rfl⟩ := h
                cases r0 with
                | str s0 =>
                  cases r1 with
                  | str s1 =>
                    have : s0 = s1 := by
                      cases s0; cases s1
                      congr 1
                      exact Array.ext' h
                    exact key ht (by rw [this]) trivial
              · cases h
            | _ => simp [eqCells] at h
          | _ => cases b <;> simp [eqCells] at h

theorem sameBits_kind (n : Nat) {v : Value} (h : KindV v) : Instr.sameBits n v v = true := by
  cases v <;> simp [KindV] at h
  · simp [Instr.sameBits]
  · simp [Instr.sameBits]
  · rename_i s
    unfold Instr.sameBits
    cases s with
    | mk d => exact beq_self_eq_true d

theorem key_same {G G' : Cs} {w w' : World} {v u : Value} {x y : PV} (hv : RepV G w v x) (hu : RepV G' w' u y) (hag : x.isAgg = y.isAgg) (h : eqCells x.cells y.cells = some true) :
    v = u ∧ Instr.sameBits 10000 v v = true := by
  have hc := eqCells_same (xs := v.cells.toList) (ys := u.cells.toList) h (by simpa using hv.size) (by simpa using hu.size)
    (fun i a c ha hc => (hv.cell i a c (by simpa using ha) hc).1) (fun i a c ha hc => (hu.cell i a c (by simpa using ha) hc).1)
  obtain ⟨h1, h2⟩ := hc
  cases hx : x.isAgg with
  | true =>
    rw [hx] at hag
    cases x <;> simp [PV.isAgg] at hx
    cases y <;> simp [PV.isAgg] at hag
    cases hv
    cases hu
    rename_i vs _ _ _ us _ _ _
    simp only [Value.cells] at h1 h2
    have : vs = us := Array.ext' h1
    subst this
    refine ⟨rfl, ?_⟩
    show Instr.sameBits (9999 + 1) _ _ = true
    simp only [Instr.sameBits, beq_self_eq_true, Bool.true_and, List.all_eq_true]
    intro p hp
    obtain ⟨i, hi⟩ := List.getElem?_of_mem hp
    rw [List.getElem?_zip_eq_some] at hi
    obtain ⟨h3, h4⟩ := hi
    have h5 : p.1 = p.2 := by rw [h3] at h4; exact Option.some.inj h4
    rw [← h5]
    exact sameBits_kind _ (h2 _ (List.mem_of_getElem? h3))
  | false =>
    rw [hx] at hag
    have p1 := (hv.plain hx).cells
    have p2 := (hu.plain hag.symm).cells
    rw [p1] at h1 h2
    rw [p2] at h1
    simp at h1 h2
    exact ⟨h1, sameBits_kind _ h2⟩

theorem hasKc_scalar {ks : List Kc} : ∀ {cs : List PV}, hasKc ks cs = true → PV.scalar.go cs = true := by
  induction ks with
  | nil => intro cs h; cases cs <;> simp_all [hasKc, PV.scalar.go]
  | cons k ks ih =>
    intro cs h
    cases cs with
    | nil => rfl
    | cons c cs => cases k <;> cases c <;> simp [hasKc] at h <;> simp [PV.scalar.go] <;> first | exact ih h | exact ih h.2

theorem keyT_scalar {kt : TypeId} {x : PV} (h : keyT P E kt x = true) : x.scalar = true := by
  unfold keyT at h
  split at h <;> try rfl
  · split at h
    · simpa [PV.scalar] using hasKc_scalar h
    · cases h
  · cases h

theorem run_setObj_map {b : Nat} {en : Array MapEntry} {clock : Nat} (h : w.heap[b]? = some (.map en clock)) (o : Obj) : (setObj b o).run P w = .ok () { w with heap := w.heap.setIfInBounds b o } := by
  simp [setObj, Sem.run, h]

/-- What an operation without a result comes to. -/
def Comes0 (P : Program) (B n0 : Nat) (ρ : Emb) (G : Cs) (w : World) (S : Look) (s : Sem Unit) (e : Eff) : Prop :=
  ∃ ρ' G' w', s.run P w = .ok () w' ∧ SInv ρ' G' B n0 w' (over e.wr S) ∧ Ext All B n0 ρ G w S ρ' G' w' (over e.wr S) ∧ e.res = .dead

theorem set_obj (h : SInv ρ G B n0 w S) {k b : Nat} {c : Nat × Nat} {ob ob' : Ob} (hk : S k = some ob) (hb : ρ k = some (b, c)) (hr : isRow ob = false) (hr' : isRow ob' = false) (hp : ∀ o, ¬ prot c.2 ob o) {o : Obj} {S' : Look} (hS : ∀ j, S' j = if k = j then some ob' else S j)
    (hcl : ∀ o v, w.cell? ⟨b, o, none⟩ = some v → False)
    (hO : Ext All B n0 ρ G w S ρ G { w with heap := w.heap.setIfInBounds b o } S' → RelO ρ G B n0 { w with heap := w.heap.setIfInBounds b o } S' k ob') :
    SInv ρ G B n0 { w with heap := w.heap.setIfInBounds b o } S' ∧ Ext All B n0 ρ G w S ρ G { w with heap := w.heap.setIfInBounds b o } S' := by
  refine inv_set h hk hb hS (by simp) (fun b' hb' => ?_) rfl rfl rfl (fun _ _ h => .inl h) (fun _ _ h => h) (fun o ho => absurd (h.gobj k b c _ o hb hk ho) (hp o)) (fun o v ho _ => absurd (h.gobj k b c _ o hb hk ho) (hp o)) ?_ hO
  · simp [Array.getElem?_setIfInBounds, Ne.symm hb']
  · cases ob <;> simp_all [Ev, isRow]

theorem mapUpdate_run (hE : EnvEq P E) {kt et t : TypeId} (hu : P.underlying t = some (.map kt et)) {key : PV} (hkt : keyT P E kt key = true) {kv uv : Value} {G G' : Cs} (hi : RepV G w kv key) {b : Nat} {en : Array MapEntry} {clock : Nat}
    (hh : w.heap[b]? = some (.map en clock)) {α : Type} {es : List (PV × α)} (hsz : en.size = es.length) (hr : ∀ (i : Nat) e p, en[i]? = some e → es[i]? = some p → RepV G' w e.key p.1) {r : Option α} (hf : mapFind key es = some r) (a : α) :
    ∃ en' clock', (Instr.mapUpdate t (.map (some b)) kv uv).run P w = .ok () { w with heap := w.heap.setIfInBounds b (.map en' clock') } ∧ en'.size = (mapPut key a es).length ∧
      ∀ (i : Nat) e p, en'[i]? = some e → (mapPut key a es)[i]? = some p → (e.key = kv ∧ e.val = uv ∧ p = (key, a)) ∨ (∃ j : Nat, en[j]? = some e ∧ es[j]? = some p) := by
  have hck := (keyT_run (w := w) hE hkt hi).1
  have hrel : ∀ (i : Nat) e p, en.toList[i]? = some e → es[i]? = some p → RepV (fun b o => G b o ∨ G' b o) w e.key p.1 := fun i e p he hp => (hr i e p (by simpa using he) hp).weaken fun _ _ h => .inr h
  obtain ⟨q, f1, f2⟩ := findKey_sound hE hkt (hi.weaken fun _ _ h => Or.inl h) (en := en.toList) (by simpa using hsz) hrel hf w
  cases r with
  | none =>
    obtain ⟨rfl, hw⟩ := f2
    refine ⟨en.push { key := kv, val := uv, born := clock }, clock + 1, ?_, by rw [mapPut_push hw]; simp [hsz], fun i e p he hp => ?_⟩
    · unfold Instr.mapUpdate
      simp only [Sem.run_bind, run_underlying hu, Result.andThen_ok, run_getObj_map hh, hck, f1, run_setObj_map hh]
    · rw [mapPut_push hw] at hp
      rw [Array.getElem?_push] at he
      split at he
      · rename_i hi'
        simp at he
        subst he
        rw [hi', hsz] at hp
        simp at hp
        exact .inl ⟨rfl, rfl, hp.symm⟩
      · have hlt : i < en.size := (Array.getElem?_eq_some_iff.1 he).1
        rw [List.getElem?_append_left (by omega)] at hp
        exact .inr ⟨i, he, hp⟩
  | some a0 =>
    obtain ⟨j, e', k', rfl, d2, d3, d4, d5⟩ := f2
    obtain ⟨j', k2, m1, m2, m3, m4⟩ := mapFind_at hf
    rw [d4] at m2
    cases m2
    rw [d3] at m1
    cases m1
    have d2' : en[j]? = some e' := by simpa using d2
    obtain ⟨hsame, hbits⟩ := key_same hi (hr j e' _ d2' d3) m3 m4
    refine ⟨en.modify j fun e => { e with key := kv, val := uv }, clock, ?_, by rw [mapPut_set d4]; simp [hsz], fun i e p he hp => ?_⟩
    · unfold Instr.mapUpdate
      simp only [Sem.run_bind, run_underlying hu, Result.andThen_ok, run_getObj_map hh, hck, f1]
      have hkeep : (Instr.keyThatStays (((en[j]?).map (·.key)).getD kv) kv).run P w = .ok kv w := by
        rw [d2']
        simp only [Option.map_some, Option.getD_some, ← hsame]
        unfold Instr.keyThatStays
        rw [if_pos hbits]
        rfl
      simp only [hkeep, Result.andThen_ok, run_setObj_map hh]
    · rw [mapPut_set d4] at hp
      rw [Array.getElem?_modify] at he
      rw [List.getElem?_set] at hp
      split at he
      · rename_i hji
        subst hji
        rw [d2'] at he
        simp at he
        rw [if_pos rfl] at hp
        split at hp
        · simp at hp
          exact .inl ⟨by rw [← he], by rw [← he], hp.symm⟩
        · cases hp
      · rename_i hji
        rw [if_neg hji] at hp
        exact .inr ⟨i, he, hp⟩

theorem map_nocell {b : Nat} {en : Array MapEntry} {clock : Nat} (h : w.heap[b]? = some (.map en clock)) (o : Nat) (v : Value) (hv : w.cell? ⟨b, o, none⟩ = some v) : False := by
  simp [World.cell?, h] at hv

theorem getElem_set_self {b : Nat} {o o' : Obj} (h : w.heap[b]? = some o) : (w.heap.setIfInBounds b o')[b]? = some o' := by
  have := (Array.getElem?_eq_some_iff.1 h).1
  simp [Array.getElem?_setIfInBounds, this]

theorem mapUpdate_sound (hE : EnvEq P E) (h : SInv ρ G B n0 w S) {t : TypeId} {v u uv : Value} {x i s : SV} (hv : RelV ρ G B n0 w S v x) (hi : RelV ρ G B n0 w S u i) (hs : RelV ρ G B n0 w S uv s) {e : Eff} (he : mapUpdateV P E n0 S t x i s = some e) :
    Comes0 P B n0 ρ G w S (Instr.mapUpdate t v u uv) e := by
  unfold mapUpdateV at he
  split at he
  · rename_i kt et k mi key hu
    split at he
    · rename_i hkt
      cases hi with
      | pure _ _ _ hi =>
        cases hv with
        | map _ b c ob hk hr hb =>
          split at he
          · rename_i hk'
            split at he
            · rename_i m' y δ hf
              obtain ⟨G1, f1, f2, f3⟩ := freezeN_sound h hs hf
              split at he
              · rename_i m es hk2
                split at he
                · rename_i q hq
                  simp only [Option.some.injEq] at he
                  subst he
                  obtain ⟨b', c', en, clock, o1, o2, o3, o4⟩ := f1.obj k _ hk2
                  rw [hb] at o1
                  cases o1
                  have hi1 := hi.mono (f2.gm mi)
                  obtain ⟨en', clock', r1, r2, r3⟩ := mapUpdate_run (uv := uv) hE hu hkt hi1 o2 o3 (fun i e p he hp => (o4 i e p he hp).1) hq y
                  have hset := set_obj (ob' := .map (m && (m' || y.scalar)) (mapPut key y es)) (o := .map en' clock') (S' := over ((k, .map (m && (m' || y.scalar)) (mapPut key y es)) :: δ) S) f1 hk2 hb rfl rfl (fun _ h => h) (fun j => over_cons ..) (map_nocell o2)
                    (fun hx => ⟨b, c, en', clock', hb, getElem_set_self o2, r2, fun i e p he hp => by
                      rcases r3 i e p he hp with ⟨q1, q2, q3⟩ | ⟨j, q1, q2⟩
                      · subst q3
                        have hsc := keyT_scalar hkt
                        exact ⟨by rw [q1]; exact hi.scalar hsc, hsc, by
                          rw [q2]
                          exact ((f3.flag).mono (hx.gm _)).weaken (Gm.le (by intro hm; simp at hm ⊢; exact hm.2))⟩
                      · have := o4 j e p q1 q2
                        exact ⟨this.1.scalar this.2.1, this.2.1, (this.2.2.mono (hx.gm _)).weaken (Gm.le (by intro hm; simp at hm ⊢; exact hm.1))⟩⟩)
                  exact ⟨ρ, G1, _, r1, hset.1, f2.trans hset.2, rfl⟩
                · cases he
              · cases he
            · cases he
          · rename_i es hk'
            rw [hk] at hk'
            cases hk'
            split at he
            · rename_i q hq
              simp only [Option.some.injEq] at he
              subst he
              obtain ⟨b', c', en, clock, o1, o2, o3, o4⟩ := h.obj k _ hk
              rw [hb] at o1
              cases o1
              obtain ⟨en', clock', r1, r2, r3⟩ := mapUpdate_run (uv := uv) hE hu hkt hi o2 o3 (fun i e p he hp => (o4 i e p he hp).1) hq s
              have hset := set_obj (ob' := .maps (mapPut key s es)) (o := .map en' clock') (S' := over [(k, .maps (mapPut key s es))] S) h hk hb rfl rfl (fun _ h => h) (fun j => over_one ..) (map_nocell o2)
                (fun hx => ⟨b, c, en', clock', hb, getElem_set_self o2, r2, fun i e p he hp => by
                  rcases r3 i e p he hp with ⟨q1, q2, q3⟩ | ⟨j, q1, q2⟩
                  · subst q3
                    have hsc := keyT_scalar hkt
                    exact ⟨by rw [q1]; exact hi.scalar hsc, hsc, by rw [q2]; exact hs.ext hx⟩
                  · have := o4 j e p q1 q2
                    exact ⟨this.1.scalar this.2.1, this.2.1, this.2.2.ext hx⟩⟩)
              exact ⟨ρ, G, _, r1, hset.1, hset.2, rfl⟩
            · cases he
          · cases he
    · cases he
  · cases he

end
end Go.Proofs.YticdhmcbooabaaaDoor.V
