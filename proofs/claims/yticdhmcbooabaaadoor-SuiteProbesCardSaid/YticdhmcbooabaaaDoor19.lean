/- V19: from a given row to the evaluator. No claim. -/
import Derived.Test.YticdhmcbooabaaaDoor18
import Derived.ProofKit
import Derived.OpenShut
import Derived.ChangeArms
import Derived.ChangeCalls
import Derived.ChangeOld
import Derived.Below
import Derived.SizedLaws
set_option linter.unusedVariables false
set_option linter.unusedSimpArgs false
namespace Go.Proofs.YticdhmcbooabaaaDoor.V
open Go Go.ChangeShapes Go.WideShapes Go.ChangeAt Go.RowKit

section
variable {P : Program} {E : Env}

/-- Parts, one behind the other. -/
def seqW (W : TypeId → List PV → Prop) : List TypeId → List PV → Prop
  | [], cs => cs = []
  | t :: ts, cs => ∃ a b, cs = a ++ b ∧ W t a ∧ seqW W ts b

/-- The cells of a value of a type that can be handed in. -/
def WfC (P : Program) : Nat → TypeId → List PV → Prop
  | 0, _, _ => False
  | n + 1, t, cs => match P.underlying t with
    | some .bool => ∃ b, cs = [.bool b]
    | some (.int k) => ∃ i, cs = [.int k i] ∧ (Lit.int k i).wf = true
    | some .string => ∃ s, cs = [.str s] ∧ s.length ≤ 140737488351232
    | some (.slice e) => ∃ xs, cs = [.sl xs] ∧ xs.length * P.bytesOf e ≤ 140737488351232 ∧ ∀ x ∈ xs, x.isAgg = isAggT P e ∧ WfC P n e x.cells
    | some (.struct fs) => seqW (WfC P n) (fs.toList.map (·.type)) cs
    | some (.array m e) => seqW (WfC P n) (List.replicate m e) cs
    | _ => False

def WfV (P : Program) (n : Nat) (t : TypeId) (x : PV) : Prop := x.isAgg = isAggT P t ∧ WfC P n t x.cells

def tiles (P : Program) : Nat → List Field → Option Nat
  | off, [] => some off
  | off, f :: r => if f.offset = off then tiles P (off + P.cellsOf f.type) r else none

def typeOk (P : Program) : Nat → TypeId → Bool
  | 0, _ => false
  | n + 1, t => match P.underlying t with
    | some .bool | some (.int _) | some .string => true
    | some (.slice e) => decide (0 < P.cellsOf e) && typeOk P n e && (isAggT P e || decide (P.cellsOf e = 1))
    | some (.struct fs) => (tiles P 0 fs.toList == some (P.cellsOf t)) && fs.toList.all fun f => typeOk P n f.type
    | some (.array m e) => decide (m * P.cellsOf e = P.cellsOf t) && typeOk P n e
    | _ => false

section
variable {H : Type} {enc : TypeId × Value → H} {w : World}

def Olds (w : World) : Cs := fun b _ => b < w.heap.size

abbrev Reps (w : World) (vs : List Value) (xs : List PV) : Prop := All2 (fun v x => RepV (Olds w) w v x ∧ x.isAgg = false) vs xs

theorem All2.length {α β : Type} {R : α → β → Prop} {l : List α} {r : List β} (h : All2 R l r) : l.length = r.length := by
  induction h with
  | nil => rfl
  | cons _ _ ih => simp [ih]

theorem All2.get {α β : Type} {R : α → β → Prop} {l : List α} {r : List β} (h : All2 R l r) : ∀ (i : Nat) a b, l[i]? = some a → r[i]? = some b → R a b := by
  induction h with
  | nil => intro i a b h; simp at h
  | cons h0 _ ih =>
    intro i a b ha hb
    cases i with
    | zero => simp at ha hb; subst ha hb; exact h0
    | succ i => exact ih i a b (by simpa using ha) (by simpa using hb)

theorem All2.append {α β : Type} {R : α → β → Prop} {l l' : List α} {r r' : List β} (h : All2 R l r) (h' : All2 R l' r') : All2 R (l ++ l') (r ++ r') := by
  induction h with
  | nil => exact h'
  | cons h0 _ ih => exact .cons h0 ih

theorem All2.one {α β : Type} {R : α → β → Prop} {a : α} {r : List β} (h : All2 R [a] r) : ∃ b, r = [b] ∧ R a b := by
  cases h with
  | cons h0 ht => cases ht; exact ⟨_, rfl, h0⟩

theorem All2.mem {α β : Type} {R : α → β → Prop} {l : List α} {r : List β} (h : All2 R l r) : ∀ b ∈ r, ∃ a, R a b := by
  induction h with
  | nil => intro b hb; simp at hb
  | cons h0 _ ih =>
    intro b hb
    rcases List.mem_cons.1 hb with rfl | hb
    · exact ⟨_, h0⟩
    · exact ih b hb

theorem add_add (a : Addr) (i j : Nat) : (a.add i).add j = a.add (i + j) := by
  cases a
  by_cases h1 : i = 0
  · subst h1; simp [Addr.add]
  · by_cases h2 : j = 0
    · subst h2; simp [Addr.add]
    · simp [Addr.add, h1, h2, Nat.add_assoc]

theorem weightsAll_mem {e : TypeId} : ∀ {ds : List (DataW H)} {d : DataW H} {n : Nat}, d ∈ ds → n ∈ d.weights P e → n ∈ DataW.weightsAll P e ds
  | d0 :: ds, d, n, hd, hn => by
    simp only [DataW.weightsAll, List.mem_append]
    rcases List.mem_cons.1 hd with rfl | hd
    · exact .inl hn
    · exact .inr (weightsAll_mem hd hn)

theorem reads_elem {e : TypeId} {cs : List Value} {xs : List PV} (h : Reps w cs xs) (hl : cs.length = P.cellsOf e) (ho : isAggT P e = true ∨ P.cellsOf e = 1) :
    ∃ v x, RepV (Olds w) w v x ∧ v.cells.toList = cs ∧ x.cells = xs ∧ x.isAgg = isAggT P e := by
  cases ha : isAggT P e with
  | true =>
    refine ⟨.agg cs.toArray, .agg xs, .agg _ _ (by simpa using h.length) (fun i v c hv hc => (h.get i v c (by simpa using hv) hc).1) fun c hc => ?_, by simp [Value.cells], rfl, rfl⟩
    obtain ⟨a, h1, h2⟩ := h.mem c hc
    exact h2
  | false =>
    have h1 : P.cellsOf e = 1 := by rcases ho with ho | ho <;> simp_all
    rw [h1] at hl
    cases cs with
    | nil => simp at hl
    | cons c cs =>
      cases cs with
      | cons => simp at hl
      | nil =>
        obtain ⟨x, rfl, hx, hag⟩ := h.one
        exact ⟨c, x, hx, by rw [(hx.plain hag).cells], nagg_cells hag, hag⟩

theorem trod_rep : ∀ (n : Nat) (t : TypeId) {fuel : Nat} {sp : Nat → Bool} {hd : Bool} {cs : List Value} {d : DataW H} {ps : List MemPlace}, typeOk P n t = true → DataW.trod enc P w 0 sp hd fuel t cs = some (d, ps) → (∀ k ∈ d.weights P t, k ≤ reachBytes) →
    ∃ xs, Reps w cs xs ∧ WfC P n t xs := by
  intro n
  induction n with
  | zero => intro t fuel sp hd cs d ps h; simp [typeOk] at h
  | succ n ih =>
    intro t fuel sp hd cs d ps h ht hw
    simp only [typeOk] at h
    simp only [WfC]
    split at h
    · -- bool
      rename_i hu
      try simp only [hu]
      cases fuel with
      | zero => simp [DataW.trod] at ht
      | succ m =>
        unfold DataW.trod at ht
        rw [hu] at ht
        split at ht <;> simp_all
        rename_i b
        exact ⟨[.bool b], .cons ⟨.bool b, rfl⟩ .nil, by cases b <;> simp⟩
    · -- int
      rename_i k hu
      try simp only [hu]
      cases fuel with
      | zero => simp [DataW.trod] at ht
      | succ m =>
        unfold DataW.trod at ht
        rw [hu] at ht
        split at ht <;> simp_all
        obtain ⟨⟨rfl, h1⟩, _⟩ := ht
        exact ⟨_, .cons ⟨.int _ _, rfl⟩ .nil, _, rfl, h1⟩
    · -- string
      rename_i hu
      try simp only [hu]
      cases fuel with
      | zero => simp [DataW.trod] at ht
      | succ m =>
        unfold DataW.trod at ht
        rw [hu] at ht
        split at ht <;> simp_all
        rename_i s
        obtain ⟨h1, rfl, _⟩ := ht
        refine ⟨_, .cons ⟨.str s, rfl⟩ .nil, _, rfl, ?_⟩
        have := hw s.data.toList.length (by simp [DataW.weights])
        simpa [reachBytes] using this
    · -- slice
      rename_i e hu
      try simp only [hu]
      simp only [Bool.and_eq_true, decide_eq_true_eq, Bool.or_eq_true] at h
      obtain ⟨⟨hz, hte⟩, hag⟩ := h
      rcases DataW.trod_slice hu ht with ⟨rfl, hx⟩ | ⟨a, len, cap, elems, rest, m, _, rfl, hx, hb, hle, hmx, hlen, hel, _, _⟩
      · exact ⟨[.sl []], .cons ⟨.nil none 0, rfl⟩ .nil, [], rfl, by simp, by simp⟩
      · cases hx
        have hwt : ∀ (i : Nat) x, elems[i]? = some x → ∀ k ∈ x.1.weights P e, k ≤ reachBytes := fun i x hi k hk => by
          refine hw k ?_
          simp only [DataW.weights, hu, List.mem_cons, List.mem_append]
          exact .inr (.inl (weightsAll_mem (List.mem_map.2 ⟨x, List.mem_of_getElem? hi, rfl⟩) hk))
        have hget : ∀ i, i < len → ∃ v x, RepV (Olds w) w v x ∧ x.isAgg = isAggT P e ∧ WfC P n e x.cells ∧ x.cells.length = P.cellsOf e ∧ ∀ (j : Nat) u, v.cells[j]? = some u → w.cell? (a.add (i * P.cellsOf e + j)) = some u := by
          intro i hi
          have h1 := hel i hi
          cases hc : w.cells? 0 (a.add (i * P.cellsOf e)) (P.cellsOf e) with
          | none =>
            rw [hc] at h1
            simp only [Option.bind_none] at h1
            have : i < elems.length := by omega
            simp [this] at h1
          | some cs =>
            rw [hc] at h1
            simp only [Option.bind_some] at h1
            have hi' : i < elems.length := by omega
            have hx : elems[i]? = some elems[i] := List.getElem?_eq_getElem hi'
            rw [hx] at h1
            obtain ⟨_, c1, c2⟩ := World.cells?_some hc
            obtain ⟨xs, r1, r2⟩ := ih e (d := elems[i].1) (ps := elems[i].2) hte h1 (hwt i _ hx)
            obtain ⟨v, x, q1, q2, q3, q4⟩ := reads_elem (P := P) (e := e) r1 c1 hag
            refine ⟨v, x, q1, q4, by rw [q3]; exact r2, by rw [q3, ← r1.length, c1], fun j u hu' => ?_⟩
            have hj : j < P.cellsOf e := by
              have := (Array.getElem?_eq_some_iff.1 hu').1
              have h2 := congrArg List.length q2
              simp at h2
              omega
            have := c2 j hj
            rw [← q2, Array.getElem?_toList, hu'] at this
            rw [show a.add (i * P.cellsOf e + j) = (a.add (i * P.cellsOf e)).add j from (add_add a _ _).symm]
            exact this
        let f : Nat → Value × PV := fun i => if hi : i < len then (Classical.choose (hget i hi), Classical.choose (Classical.choose_spec (hget i hi))) else (undef, .sl [])
        have hf : ∀ i, (hi : i < len) → RepV (Olds w) w (f i).1 (f i).2 ∧ (f i).2.isAgg = isAggT P e ∧ WfC P n e (f i).2.cells ∧ (f i).2.cells.length = P.cellsOf e ∧ ∀ (j : Nat) u, (f i).1.cells[j]? = some u → w.cell? (a.add (i * P.cellsOf e + j)) = some u := by
          intro i hi
          have := Classical.choose_spec (Classical.choose_spec (hget i hi))
          simp only [f, dif_pos hi]
          exact this
        have hxs : ∀ (j : Nat) x, ((List.range len).map fun i => (f i).2)[j]? = some x → j < len ∧ x = (f j).2 := fun j x hj => by
          rw [List.getElem?_map] at hj
          by_cases hl : j < len
          · rw [List.getElem?_range hl] at hj
            simp at hj
            exact ⟨hl, hj.symm⟩
          · rw [List.getElem?_eq_none (by simp; omega)] at hj
            cases hj
        refine ⟨[.sl ((List.range len).map fun i => (f i).2)], .cons ⟨?_, rfl⟩ .nil, _, rfl, ?_, fun x hx => ?_⟩
        · rcases Nat.eq_zero_or_pos len with h0 | hpos
          · subst h0
            exact .nil (some a) cap
          · -- the address is a plain one
            have h0 := hf 0 hpos
            have hcs : 0 < (f 0).1.cells.size := by rw [h0.1.size, h0.2.2.2.1]; exact hz
            have hc0 := h0.2.2.2.2 0 _ (Array.getElem?_eq_getElem hcs)
            have hspot : a.spot = none := by
              cases hs : a.spot with
              | none => rfl
              | some s =>
                unfold World.cell? at hc0
                split at hc0
                · simp [Addr.add, hs] at hc0
                · cases hc0
            obtain ⟨b, off, spot⟩ := a
            simp only at hspot
            subst hspot
            refine .sl b off len cap (P.cellsOf e) _ (fun i => (f i).1) (by simp) hz hle (fun j x hj => ?_) (fun j x hj => ?_) (fun j x i u hj hu' => ?_)
            · obtain ⟨h1, rfl⟩ := hxs j x hj
              exact (hf j h1).1
            · obtain ⟨h1, rfl⟩ := hxs j x hj
              exact (hf j h1).2.2.2.1
            · obtain ⟨h1, rfl⟩ := hxs j x hj
              have := (hf j h1).2.2.2.2 i u hu'
              rw [add_at, ← Nat.add_assoc] at this
              refine ⟨this, ?_⟩
              show b < w.heap.size
              exact cell_lt this
        · have := hw ((elems.map (·.1)).length * P.bytesOf e + (rest.map (·.1)).length * P.bytesOf e) (by
            simp only [DataW.weights, hu]
            rw [← Nat.add_mul]
            exact List.mem_cons_self ..)
          simp only [List.length_map, reachBytes, List.length_range, hlen] at this ⊢
          exact Nat.le_trans (Nat.le_add_right _ _) this
        · obtain ⟨i, hi, rfl⟩ := List.mem_map.1 hx
          have hi := List.mem_range.1 hi
          exact ⟨(hf i hi).2.1, (hf i hi).2.2.1⟩
    · -- struct
      rename_i fs hu
      try simp only [hu]
      simp only [Bool.and_eq_true, beq_iff_eq, List.all_eq_true] at h
      obtain ⟨htl, hte⟩ := h
      obtain ⟨parts, m, _, hx, hl, hlen, hel⟩ := DataW.trod_struct hu ht
      cases hx
      have hwt : ∀ (i : Nat) f x, fs[i]? = some f → parts[i]? = some x → ∀ k ∈ x.1.weights P f.type, k ≤ reachBytes := fun i f x hf hx k hk => by
        refine hw k ?_
        simp only [DataW.weights, hu]
        exact DataW.weights_mem_each (j := i) (t := f.type) (d := x.1) (by simp [hf]) (by simp [hx]) k hk
      have key : ∀ (l : List Field) (i off : Nat), fs.toList.drop i = l → tiles P off l = some (P.cellsOf t) → ∃ xs, Reps w (cs.drop off) xs ∧ seqW (WfC P n) (l.map (·.type)) xs := by
        intro l
        induction l with
        | nil =>
          intro i off _ hoff
          simp only [tiles, Option.some.injEq] at hoff
          refine ⟨[], ?_, rfl⟩
          rw [List.drop_eq_nil_of_le (by omega)]
          exact .nil
        | cons f l ihl =>
          intro i off hdrop hoff
          simp only [tiles] at hoff
          split at hoff
          · rename_i ho
            have hfi : fs[i]? = some f := by
              have := congrArg (fun l => l[0]?) hdrop
              simpa using this
            have hi : i < parts.length := by
              rw [hlen]
              exact (Array.getElem?_eq_some_iff.1 hfi).1
            have hx : parts[i]? = some parts[i] := List.getElem?_eq_getElem hi
            have h1 := hel i f hfi
            rw [hx, ho] at h1
            obtain ⟨xs, r1, r2⟩ := ih f.type (d := parts[i].1) (ps := parts[i].2) (hte f (by
              have : f ∈ fs.toList.drop i := by rw [hdrop]; simp
              exact List.mem_of_mem_drop this)) h1 (hwt i f _ hfi hx)
            obtain ⟨ys, q1, q2⟩ := ihl (i + 1) (off + P.cellsOf f.type) (by
              have := congrArg (List.drop 1) hdrop
              simpa [List.drop_drop, Nat.add_comm] using this) hoff
            refine ⟨xs ++ ys, ?_, xs, ys, rfl, r2, q2⟩
            have h2 := r1.append q1
            rwa [← List.drop_drop, List.take_append_drop] at h2
          · cases hoff
      obtain ⟨xs, r1, r2⟩ := key fs.toList 0 0 rfl htl
      exact ⟨xs, by simpa using r1, r2⟩
    · -- array
      rename_i m e hu
      try simp only [hu]
      simp only [Bool.and_eq_true, decide_eq_true_eq] at h
      obtain ⟨hsz, hte⟩ := h
      cases fuel with
      | zero => simp [DataW.trod] at ht
      | succ q =>
        unfold DataW.trod at ht
        rw [hu] at ht
        simp only at ht
        split at ht
        · rename_i hl
          simp only [Option.map_eq_some_iff] at ht
          obtain ⟨parts, hp, hx⟩ := ht
          cases hx
          have hlen : parts.length = m := by simpa using mapM_some_length hp
          have hel := fun (i : Nat) (hi : i < m) => mapM_some_get hp i i (by simp [hi])
          have hwt : ∀ (i : Nat) x, parts[i]? = some x → ∀ k ∈ x.1.weights P e, k ≤ reachBytes := fun i x hx k hk => by
            refine hw k ?_
            simp only [DataW.weights, hu]
            exact weightsAll_mem (List.mem_map.2 ⟨x, List.mem_of_getElem? hx, rfl⟩) hk
          have key : ∀ (r i : Nat), i + r = m → ∃ xs, Reps w (cs.drop (i * P.cellsOf e)) xs ∧ seqW (WfC P n) (List.replicate r e) xs := by
            intro r
            induction r with
            | zero =>
              intro i hi
              refine ⟨[], ?_, rfl⟩
              rw [List.drop_eq_nil_of_le (by rw [hl, ← hsz]; exact Nat.mul_le_mul_right _ (by omega))]
              exact .nil
            | succ r ihr =>
              intro i hi
              have hi' : i < parts.length := by omega
              have hx : parts[i]? = some parts[i] := List.getElem?_eq_getElem hi'
              have h1 := hel i (by omega)
              rw [hx] at h1
              obtain ⟨xs, r1, r2⟩ := ih e (d := parts[i].1) (ps := parts[i].2) hte h1 (hwt i _ hx)
              obtain ⟨ys, q1, q2⟩ := ihr (i + 1) (by omega)
              refine ⟨xs ++ ys, ?_, xs, ys, rfl, r2, q2⟩
              have h2 := r1.append q1
              rwa [Nat.succ_mul, ← List.drop_drop, List.take_append_drop] at h2
          obtain ⟨xs, r1, r2⟩ := key m 0 (by omega)
          exact ⟨xs, by simpa using r1, r2⟩
        · cases ht
    · cases h

/-- One argument. -/
theorem arg_rep {n : Nat} {t : TypeId} {sp : Nat → Bool} {hd : Bool} {v : Value} {d : DataW H} {ps : List MemPlace} {r : Reach} {b0 : Nat} (hk : typeOk P n t = true) (hval : Value.okWide P w r b0 t v) (ht : DataW.Trod enc P w 0 sp hd t v d ps)
    (hw : ∀ k ∈ d.weights P t, k ≤ reachBytes) : ∃ x, RepV (Olds w) w v x ∧ WfV P n t x := by
  obtain ⟨fuel, hf⟩ := ht
  obtain ⟨xs, r1, r2⟩ := trod_rep n t hk hf hw
  have single : isAggT P t = false → v.cells = #[v] → ∃ x, RepV (Olds w) w v x ∧ WfV P n t x := fun ha hv => by
    rw [hv] at r1
    obtain ⟨x, rfl, h1, h2⟩ := r1.one
    exact ⟨x, h1, h2.trans ha.symm, by rw [nagg_cells h2]; exact r2⟩
  have many : isAggT P t = true → (∃ cs, v = .agg cs) → ∃ x, RepV (Olds w) w v x ∧ WfV P n t x := fun ha hv => by
    obtain ⟨cs, rfl⟩ := hv
    simp only [Value.cells] at r1
    refine ⟨.agg xs, .agg _ _ (by simpa using r1.length) (fun i v c hv hc => (r1.get i v c (by simpa using hv) hc).1) (fun c hc => (r1.mem c hc).elim fun _ h => h.2), ha.symm, r2⟩
  cases n with
  | zero => simp [typeOk] at hk
  | succ n =>
    simp only [typeOk] at hk
    split at hk
    · rename_i hu
      obtain ⟨b, rfl⟩ := okWide_bool hu hval
      exact single (by simp [isAggT, hu]) rfl
    · rename_i k hu
      obtain ⟨b, rfl⟩ := okWide_int hu hval
      exact single (by simp [isAggT, hu]) rfl
    · rename_i hu
      obtain ⟨b, rfl⟩ := okWide_string hu hval
      exact single (by simp [isAggT, hu]) rfl
    · rename_i e hu
      obtain ⟨a, len, cap, rfl⟩ := okWide_slice hu hval
      exact single (by simp [isAggT, hu]) rfl
    · rename_i fs hu
      simp only [Value.okWide, hu] at hval
      obtain ⟨cs, rfl, _⟩ := hval
      exact many (by simp [isAggT, hu]) ⟨_, rfl⟩
    · rename_i m e hu
      simp only [Value.okWide, hu] at hval
      obtain ⟨cs, rfl, _⟩ := hval
      exact many (by simp [isAggT, hu]) ⟨_, rfl⟩
    · cases hk

/-- All arguments. -/
theorem args_rep {n : Nat} {sp : Nat → Bool} {hd : Bool} {r : Reach} {b0 : Nat} : ∀ {ts : List TypeId} {vs : List Value} {ds : List (DataW H)} {ps : List MemPlace}, ts.all (typeOk P n) = true → (∀ (j : Nat) t v, ts[j]? = some t → vs[j]? = some v → Value.okWide P w r b0 t v) →
    DataW.TrodAll enc P w 0 sp hd ts vs ds ps → (∀ k ∈ DataW.weightsEach P ts ds, k ≤ reachBytes) → ∃ xs, All2 (fun v x => RepV (Olds w) w v x) vs xs ∧ All2 (WfV P n) ts xs
  | [], [], [], _, _, _, _, _ => ⟨[], .nil, .nil⟩
  | [], [], _ :: _, _, _, _, h, _ => h.elim
  | [], _ :: _, _, _, _, _, h, _ => h.elim
  | _ :: _, [], _, _, _, _, h, _ => h.elim
  | _ :: _, _ :: _, [], _, _, _, h, _ => h.elim
  | t :: ts, v :: vs, d :: ds, ps, hk, hval, ⟨p, q, h1, h2, _⟩, hw => by
    simp only [List.all_cons, Bool.and_eq_true] at hk
    simp only [DataW.weightsEach, List.mem_append] at hw
    obtain ⟨x, a1, a2⟩ := arg_rep hk.1 (hval 0 t v rfl rfl) h1 fun k hk => hw k (.inl hk)
    obtain ⟨xs, b1, b2⟩ := args_rep hk.2 (fun j t v ht hv => hval (j + 1) t v (by simpa using ht) (by simpa using hv)) h2 fun k hk => hw k (.inr hk)
    exact ⟨x :: xs, .cons a1 b1, .cons a2 b2⟩

theorem trodAll_below {W W' : World} (hl : laidOutB P = true) (hb : Below W.heap.size W W') : ∀ {ts : List TypeId} {vs : List Value} {ds : List (DataW H)} {ps : List MemPlace}, (ts.all fun t => P.readableRec t && decide (t < P.types.size)) = true →
    DataW.TrodAll enc P W 0 (fun _ => true) true ts vs ds ps → DataW.TrodAll enc P W' 0 (fun b => decide (b < W.heap.size)) true ts vs ds ps
  | [], [], [], _, _, h => h
  | [], [], _ :: _, _, _, h => h.elim
  | [], _ :: _, _, _, _, h => h.elim
  | _ :: _, [], _, _, _, h => h.elim
  | _ :: _, _ :: _, [], _, _, h => h.elim
  | t :: ts, v :: vs, d :: ds, ps, hk, ⟨p, q, h1, h2, e⟩ => by
    simp only [List.all_cons, Bool.and_eq_true, decide_eq_true_eq] at hk
    have hlt : ∀ x ∈ p, x.block < W.heap.size := by
      obtain ⟨m, hm⟩ := h1
      exact DataW.trod_lt m _ _ _ hm
    exact ⟨p, q, Below.trod hl hk.1.1 hk.1.2 h1 hb hlt, trodAll_below hl hb (by simpa using hk.2) h2, e⟩

end

/-- What a law's row asks of a call, out of the evaluator's answer. -/
theorem law_contract {H : Type} {enc : TypeId × Value → H} (hE : EnvAll P E) (hglob : ∀ g, E.glob g = none) (hlaid : laidOutB P = true) {F : FuncId} {fn : Func} {s : ChangeSpec} {N rt : TypeId} (hvars : s.vars = []) (hrt : fn.resultTypes = #[rt]) (hub : P.underlying rt = some .bool)
    (hread : (fn.params.toList.all fun t => P.readableRec t && decide (t < P.types.size)) = true) (hok : fn.params.toList.all (typeOk P N) = true)
    (hspec : ∀ ds : List (DataW H), ds.length = fn.params.size → s.fn H ds = { results := [.lit (.bool true)], args := ds })
    (law : ∀ xs : List PV, All2 (WfV P N) fn.params.toList xs → ∃ n m S1, callF P E n F (xs.map (.pure false)) [] = some (.pure m (.bool true), S1))
    (W : World) (base : Nat) (args : Array Value) (ds gs : List (DataW H)) (before : List MemPlace)
    (hval : ∀ (j : Nat) t v, fn.params[j]? = some t → args[j]? = some v → Value.okWide P W .any base t v)
    (hW : DataW.Whole enc P fn.params.toList s.vars false W args.toList ds gs before)
    (hsz : (DataW.weightsEach P (fn.params.toList ++ s.plain.varTypes P) (ds ++ gs)).all (· ≤ reachBytes) = true) :
    Calls P F args W fun e W' => ∃ v, e = .returned v ∧ s.post enc P fn false true false false W args v W' := by
  have hW' := hW
  obtain ⟨p, q, hA, hV, rfl, hfz, hnd⟩ := hW
  rw [hvars] at hV
  obtain ⟨rfl, rfl⟩ := trodVars_none hV
  simp only [List.append_nil] at hW' hsz
  have hlen := trodAll_length hA
  obtain ⟨xs, r1, r2⟩ := args_rep (b0 := base) (r := .any) hok (fun j t v ht hv => hval j t v (by simpa using ht) (by simpa using hv)) hA fun k hk => by
    have hall := List.all_eq_true.1 hsz
    have hmem : ∀ (ts us : List TypeId) (ds : List (DataW H)), k ∈ DataW.weightsEach P ts ds → k ∈ DataW.weightsEach P (ts ++ us) ds := by
      intro ts
      induction ts with
      | nil => intro us ds h; simp [DataW.weightsEach] at h
      | cons t ts ih =>
        intro us ds h
        cases ds with
        | nil => simp [DataW.weightsEach] at h
        | cons d ds =>
          simp only [List.cons_append, DataW.weightsEach, List.mem_append] at h ⊢
          exact h.imp id (ih us ds)
    have := hall k (hmem _ _ _ hk)
    simpa using this
  obtain ⟨n, m, S1, hrun⟩ := law xs r2
  have hinv : SInv (fun _ => none) (Olds W) W.heap.size 0 W (get []) := by
    refine ⟨fun k k' b c c' h => by simp at h, fun k b c h => by simp at h, fun b o h => h, fun k b c ob o h => by simp at h, fun k ob h => by simp [get] at h, fun k _ => rfl, fun k b c _ h => by simp at h, Nat.le_refl _⟩
  refine (callF_sound hE n F (xs.map (.pure false)) [] _ S1 hrun args (fun _ => none) (Olds W) W (by simp [get]) hinv ⟨fun g cs hg => by rw [hglob g] at hg; cases hg⟩ (by simpa using r1.length) (fun i v s hv hs => ?_)).mono ?_
  · rw [List.getElem?_map] at hs
    cases hx : xs[i]? with
    | none => rw [hx] at hs; cases hs
    | some x =>
      rw [hx] at hs
      cases hs
      exact .pure _ _ _ ((r1.get i v x (by simpa using hv) hx).weaken fun b o hb => ⟨hb, fun h => by cases h⟩)
  · rintro e W' ⟨u, ρ', G', rfl, q1, q2, q3, q4⟩
    have hu : u = .bool true := by
      cases q3 with
      | pure _ _ _ h => cases h; rfl
    subst hu
    have bel : Below W.heap.size W W' := ⟨q2.os, q2.tape, q2.out, q2.size, fun k hk => q2.frame k hk fun _ _ h => by simp at h⟩
    refine ⟨_, rfl, ds, [], p, [], p, [], by simpa using hW', ?_, ?_, ?_, bel.frame _, fun h => by cases h⟩
    · rw [List.append_nil, hspec ds (by
        have := hlen
        simp at this
        omega), hrt]
      exact trodAll_mk1 (shut_bool hub _)
    · rw [List.append_nil, hspec ds (by
        have := hlen
        simp at this
        omega)]
      exact trodAll_below hlaid bel hread hA
    · rw [hvars]
      rw [List.append_nil, hspec ds (by
        have := hlen
        simp at this
        omega)]
      rfl

end
end Go.Proofs.YticdhmcbooabaaaDoor.V
