/- V16: regions, in the text's order and in any. No claim. -/
import Derived.Test.YticdhmcbooabaaaDoor15
set_option linter.unusedVariables false
set_option linter.unusedSimpArgs false
namespace Go.Proofs.YticdhmcbooabaaaDoor.V
open Go

section
variable {P : Program} {E : Env}

abbrev Sl := Nat → Option SV
def putF (s : Sl) (d : Option Nat) (v : SV) : Sl := fun t => if d = some t then some v else s t

theorem get_putS (s : Slots) (d : Option Nat) (v : SV) : get (putS s d v) = putF (get s) d v := by
  funext t
  cases d with
  | none => simp [putS, putF]
  | some d => simp [putS, putF, get]

/-- What an operation of a region does, over functions. -/
def effF (P : Program) (E : Env) (cf : FuncId → List SV → Store → Option (SV × Store)) (base top : Nat) (ops : Array Oper) (o : Oper) (s : Sl) (S : Look) : Option Eff :=
  if top < base + 16 * (o.dst.getD 0) + 16 then none else
  match wantedV ops o s with
  | none => none
  | some false => some { res := .tuple [] }
  | some true => act P E cf base o (evalO E s) S

theorem stepV_eff {cf : FuncId → List SV → Store → Option (SV × Store)} {base top : Nat} {ops : Array Oper} {o : Oper} {σ σ1 : St} {e : Eff} (h : stepV P E cf base top ops o σ = some (σ1, e)) :
    effF P E cf base top ops o (get σ.slots) (get σ.store) = some e ∧ get σ1.slots = putF (get σ.slots) o.dst e.res ∧ get σ1.store = over e.wr (get σ.store) := by
  unfold stepV at h
  unfold effF
  split at h
  · cases h
  · rename_i htop
    rw [if_neg htop]
    split at h
    · cases h
    · rename_i hw
      simp only [Option.some.injEq, Prod.mk.injEq] at h
      obtain ⟨rfl, rfl⟩ := h
      refine ⟨by rw [hw], get_putS .., ?_⟩
      rw [over_nil]
    · rename_i hw
      split at h
      · rename_i e' he
        simp only [Option.some.injEq, Prod.mk.injEq] at h
        obtain ⟨rfl, rfl⟩ := h
        exact ⟨by rw [hw]; exact he, get_putS .., get_over ..⟩
      · cases h

structure FInv (E : Env) (B n0 nt : Nat) (ρ0 : Emb) (G0 : Cs) (w0 : World) (S0 : Look) (s : Sl) (S : Look) (a : Act) (w : World) : Prop where
  ex : ∃ ρ G, SInv ρ G B n0 w S ∧ Ext All B n0 ρ0 G0 w0 S0 ρ G w S ∧ RelS ρ G B n0 w S s a ∧ GlobOk E G B w
  size : a.tmps.size = nt
  defers : a.defers = []

theorem put_size (a : Act) (d : Option Nat) (u : Value) : (a.put d u).tmps.size = a.tmps.size := by
  cases d <;> simp [Act.put]
theorem put_defers (a : Act) (d : Option Nat) (u : Value) : (a.put d u).defers = a.defers := by
  cases d <;> rfl

theorem relS_put {B n0 : Nat} {ρ ρ' : Emb} {G G' : Cs} {w w' : World} {S S' : Look} {s : Sl} {a : Act} {d : Option Nat} {u : Value} {v : SV} (hs : RelS ρ G B n0 w S s a) (hx : Ext All B n0 ρ G w S ρ' G' w' S') (hd : ∀ t, d = some t → t < a.tmps.size)
    (hv : RelV ρ' G' B n0 w' S' u v) : RelS ρ' G' B n0 w' S' (putF s d v) (a.put d u) := by
  intro t sv ht
  unfold putF at ht
  split at ht
  · rename_i e
    cases ht
    subst e
    have := hd t rfl
    simp only [Act.put]
    rw [show (a.tmps.setIfInBounds t u).getD t undef = u by simp [this]]
    exact hv
  · rename_i hne
    have h0 : (a.put d u).tmps.getD t undef = a.tmps.getD t undef := by
      cases d with
      | none => rfl
      | some d =>
        have : d ≠ t := fun e => hne (by rw [e])
        simp [Act.put, Array.getElem?_setIfInBounds_ne this]
    rw [h0]
    exact (hs t sv ht).ext hx

theorem wanted_sound {B n0 : Nat} {ρ : Emb} {G : Cs} {w : World} {S : Look} {s : Sl} {a : Act} {ops : Array Oper} {o : Oper} {b : Bool} (hs : RelS ρ G B n0 w S s a) (h : wantedV ops o s = some b) : Region.wanted o (yielded ops a.tmps) = b := by
  unfold wantedV at h
  unfold Region.wanted
  cases hg : o.guard with
  | none => rw [hg] at h; simpa using h
  | some gw =>
    obtain ⟨j, want⟩ := gw
    rw [hg] at h
    simp only at h ⊢
    unfold yieldedV at h
    unfold yielded
    cases hd : (ops[j]?).bind (·.dst) with
    | none => rw [hd] at h; cases h
    | some d =>
      rw [hd] at h
      simp only [Option.bind_some] at h ⊢
      split at h
      · rename_i m c hsd
        have h0 := hs d _ hsd
        simp only [Option.some.injEq] at h
        generalize hv : a.tmps.getD d undef = v at h0
        cases h0 with
        | pure _ _ _ h0 =>
          cases h0
          have : a.tmps[d]? = some (.bool c) := by
            simp only [Array.getD_eq_getD_getElem?] at hv
            cases hq : a.tmps[d]? with
            | none => rw [hq] at hv; simp [undef] at hv
            | some q => rw [hq] at hv; simp at hv; rw [hv]
          rw [this]
          simp only
          rw [← h]
          cases c <;> cases want <;> rfl
      · rename_i hsd
        have h0 := hs d _ hsd
        simp only [Option.some.injEq] at h
        generalize hv : a.tmps.getD d undef = v at h0
        cases h0 with
        | tuple _ vs hl hc =>
          have hvs : vs = #[] := Array.eq_empty_of_size_eq_zero (by simpa using hl)
          subst hvs
          rw [← h]
          simp only [Array.getD_eq_getD_getElem?] at hv
          cases hq : a.tmps[d]? with
          | none => rfl
          | some q => rw [hq] at hv; simp at hv; subst hv; rfl
      · cases h

section
variable {B n0 nt : Nat} {ρ0 : Emb} {G0 : Cs} {w0 : World} {S0 : Look} {cf : FuncId → List SV → Store → Option (SV × Store)} {ops : Array Oper} {Q : Exit → Act → World → Prop}

theorem step_wp (hE : EnvOk P E) (hcf : CallsOk P E cf) (hce : CallsEnter P cf) {s : Sl} {S : Look} {a : Act} {w : World} (hF : FInv E B n0 nt ρ0 G0 w0 S0 s S a w) {i : Nat} {o : Oper} (hi : ops[i]? = some o) {e : Eff}
    (he : effF P E cf n0 (n0 + 16 * nt) ops o s S = some e) {K : Act → World → Prop} (hK : ∀ a1 w1, FInv E B n0 nt ρ0 G0 w0 S0 (putF s o.dst e.res) (over e.wr S) a1 w1 → K a1 w1) : wpOp P ops Q i K a w := by
  obtain ⟨⟨ρ, G, h1, h2, h3, h4⟩, h5, h6⟩ := hF
  unfold effF at he
  split at he
  · cases he
  · rename_i htop
    have hd : ∀ t, o.dst = some t → t < a.tmps.size := by
      intro t ht
      rw [ht] at htop
      simp at htop
      have ht : @LT.lt Nat _ t nt := by omega
      rw [h5]
      exact ht
    unfold wpOp
    rw [hi]
    simp only
    split at he
    · cases he
    · rename_i hw
      cases he
      rw [wanted_sound h3 hw]
      simp only [Bool.false_eq_true, if_false]
      refine hK _ _ ⟨⟨ρ, G, ?_, ?_, ?_, ?_⟩, by rw [put_size]; exact h5, by rw [put_defers]; exact h6⟩
      · rw [over_nil]; exact h1
      · rw [over_nil]; exact h2
      · rw [over_nil]; exact relS_put h3 (Ext.refl ..) hd (.tuple [] #[] rfl rel_nil)
      · exact h4
    · rename_i hw
      rw [wanted_sound h3 hw]
      simp only [if_true]
      refine .inl (act_sound hE hcf hce h4 h1 h3 he K Q fun u ρ' G' w' q1 q2 q3 => hK _ _ ⟨⟨ρ', G', q1, h2.trans q2, relS_put h3 q2 hd q3, h4.ext q2⟩, by rw [put_size]; exact h5, by rw [put_defers]; exact h6⟩)

/-! ### in the text's order -/
theorem runOps_wp (hE : EnvOk P E) (hcf : CallsOk P E cf) (hce : CallsEnter P cf) : ∀ (l : List Oper) (i : Nat) {σ σ1 : St} {a : Act} {w : World}, ops.toList.drop i = l → runOps P E cf n0 (n0 + 16 * nt) ops l σ = some σ1 →
    FInv E B n0 nt ρ0 G0 w0 S0 (get σ.slots) (get σ.store) a w → (∀ a1 w1, FInv E B n0 nt ρ0 G0 w0 S0 (get σ1.slots) (get σ1.store) a1 w1 → Q .normal a1 w1) → wpOps P ops Q (List.range' i l.length) a w := by
  intro l
  induction l with
  | nil =>
    intro i σ σ1 a w hl hr hF hQ
    simp only [runOps, Option.some.injEq] at hr
    subst hr
    exact hQ a w hF
  | cons o r ih =>
    intro i σ σ1 a w hl hr hF hQ
    simp only [runOps] at hr
    split at hr
    · rename_i σ2 e hst
      obtain ⟨e1, e2, e3⟩ := stepV_eff hst
      have hi : ops[i]? = some o := by
        have := congrArg (fun l => l[0]?) hl
        simpa using this
      rw [List.length_cons, List.range'_succ, wpOps_cons]
      refine step_wp hE hcf hce hF hi e1 fun a1 w1 hF1 => ?_
      rw [← e2, ← e3] at hF1
      exact ih (i + 1) (by
        have := congrArg (List.drop 1) hl
        simpa [List.drop_drop, Nat.add_comm] using this) hr hF1 hQ
    · cases hr

theorem region_plain (hE : EnvOk P E) (hcf : CallsOk P E cf) (hce : CallsEnter P cf) {σ σ1 : St} {a : Act} {w : World} {id : Nat} (hr : runOps P E cf n0 (n0 + 16 * nt) ops ops.toList σ = some σ1)
    (hF : FInv E B n0 nt ρ0 G0 w0 S0 (get σ.slots) (get σ.store) a w) (hQ : ∀ a1 w1, FInv E B n0 nt ρ0 G0 w0 S0 (get σ1.slots) (get σ1.store) a1 w1 → Q .normal a1 w1) : (Code.region id ops false).wp P Q a w := by
  refine wp_region ?_
  have := runOps_wp (ops := ops) (Q := Q) hE hcf hce ops.toList 0 rfl hr hF hQ
  rw [List.range_eq_range']
  simpa using this

end

/-! ### in any order -/
theorem evalO_put {s : Sl} {d : Option Nat} {v : SV} {x : Operand} (h : ∀ t, d = some t → x ≠ .tmp t) : evalO E (putF s d v) x = evalO E s x := by
  cases x with
  | tmp t =>
    simp only [evalO, putF]
    rw [if_neg fun e => h t e rfl]
  | _ => rfl

theorem act_congr {cf : FuncId → List SV → Store → Option (SV × Store)} {base : Nat} {o : Oper} {ev ev' : Operand → SV} {S : Look} (h : ∀ x ∈ o.op.operands, ev' x = ev x) : act P E cf base o ev' S = act P E cf base o ev S := by
  obtain ⟨dst, op, type, pos, after, guard⟩ := o
  have pairs : ∀ ps : Array (Nat × Operand), (∀ x ∈ (ps.toList.map (·.2)).toArray, ev' x = ev x) → (ps.toList.map fun p => (p.1, ev' p.2)) = (ps.toList.map fun p => (p.1, ev p.2)) := fun ps hp =>
    List.map_congr_left fun p hm => by rw [hp p.2 (by simp only [List.mem_toArray]; exact List.mem_map.2 ⟨p, hm, rfl⟩)]
  have args : ∀ xs : Array Operand, (∀ x ∈ xs, ev' x = ev x) → xs.toList.map ev' = xs.toList.map ev := fun xs hp => List.map_congr_left fun x hm => hp x (by simpa using hm)
  cases op <;> simp only [Op.operands] at h <;> simp only [act]
  case build t ps => rw [pairs ps h]
  case buildSlice t n ps => rw [pairs ps h]
  case makeFunc fn first caps =>
    cases fn <;> simp only
    rw [args caps fun x hx => h x (by simp [hx])]
  case slice t x lo hi mx =>
    cases mx <;> simp only
    rw [h x (by simp)]
    cases lo <;> cases hi <;> simp_all
  case makeMap t r => cases r <;> rfl
  case next it b => cases b <;> simp_all
  case call c =>
    cases hc : c.callee with
    | value f =>
      have hf : ev' f = ev f := h f (by simp [Call.operands, hc])
      have ha : c.args.toList.map ev' = c.args.toList.map ev := args c.args fun x hx => h x (by simp [Call.operands, hx])
      simp only [hf, ha]
    | builtin b =>
      have ha : c.args.toList.map ev' = c.args.toList.map ev := args c.args fun x hx => h x (by simp [Call.operands, hx])
      simp only [ha]
    | invoke r m => rfl
  all_goals (first | rfl | (simp_all; done))

section
variable {cf : FuncId → List SV → Store → Option (SV × Store)} {base top : Nat} {ops : Array Oper}

theorem wantedV_put {o : Oper} {s : Sl} {d : Option Nat} {v : SV} (h : ∀ t, d = some t → t ∉ o.looksAt ops) : wantedV ops o (putF s d v) = wantedV ops o s := by
  unfold wantedV
  cases hg : o.guard with
  | none => rfl
  | some gw =>
    obtain ⟨j, want⟩ := gw
    simp only
    unfold yieldedV
    cases hd : (ops[j]?).bind (·.dst) with
    | none => rfl
    | some t =>
      have : putF s d v t = s t := by
        unfold putF
        rw [if_neg fun e => h t e (by simp [Oper.looksAt, hg, hd])]
      simp only [this]

theorem effF_put {o : Oper} {s : Sl} {S : Look} {d : Option Nat} {v : SV} (h : ∀ t, d = some t → t ∉ o.looksAt ops) : effF P E cf base top ops o (putF s d v) S = effF P E cf base top ops o s S := by
  unfold effF
  rw [wantedV_put h, act_congr fun x hx => evalO_put fun t ht hxt => h t ht (by
    subst hxt
    exact List.mem_append_left _ (List.mem_filterMap.2 ⟨.tmp t, by simpa using hx, rfl⟩))]

theorem effF_local (hI : ∀ g hh, E.intr g = some hh → ∀ args nk, Local fun S => hh args S nk) {o : Oper} {s : Sl} {S S' : Look} {e : Eff} (h : effF P E cf base top ops o s S = some e) {ks : List Nat} (hr : e.rd = some ks) (hag : ∀ k ∈ ks, S' k = S k) :
    effF P E cf base top ops o s S' = some e := by
  unfold effF at h ⊢
  split at h
  · cases h
  · rename_i htop
    rw [if_neg htop]
    split at h
    · cases h
    · exact h
    · exact act_local hI cf o _ S S' e ks h hr hag

theorem putF_comm {s : Sl} {x y : Option Nat} {v u : SV} (h : ∀ d, x = some d → y ≠ some d) : putF (putF s x v) y u = putF (putF s y u) x v := by
  funext t
  unfold putF
  by_cases h1 : y = some t
  · by_cases h2 : x = some t
    · exact absurd h1 (h t h2)
    · rw [if_pos h1, if_neg h2, if_pos h1]
  · rw [if_neg h1]
    by_cases h2 : x = some t
    · rw [if_pos h2, if_pos h2]
    · rw [if_neg h2, if_neg h2, if_neg h1]

theorem get_none {δ : Store} {k : Nat} (h : k ∉ δ.map (·.1)) : get δ k = none := by
  induction δ with
  | nil => rfl
  | cons p r ih =>
    obtain ⟨j, ob⟩ := p
    simp only [List.map_cons, List.mem_cons, not_or] at h
    simp only [get]
    rw [if_neg (Ne.symm h.1)]
    exact ih h.2

theorem over_off {δ : Store} {S : Look} {k : Nat} (h : k ∉ δ.map (·.1)) : over δ S k = S k := by
  unfold over
  rw [get_none h]

theorem disj_spec {a b : List Nat} (h : disj a b = true) (k : Nat) (ha : k ∈ a) : k ∉ b := by
  unfold disj at h
  rw [List.all_eq_true] at h
  have := h k ha
  simpa using this

theorem over_comm {δ δ' : Store} {S : Look} (h : disj (δ.map (·.1)) (δ'.map (·.1)) = true) : over δ' (over δ S) = over δ (over δ' S) := by
  funext k
  unfold over
  cases h1 : get δ k with
  | none => cases h2 : get δ' k <;> rfl
  | some ob =>
    have hm : k ∈ δ.map (·.1) := by
      refine Classical.byContradiction fun hn => ?_
      rw [get_none hn] at h1
      cases h1
    rw [get_none (disj_spec h k hm)]

/-- Two operations that change about. -/
theorem eff_swap (hI : ∀ g hh, E.intr g = some hh → ∀ args nk, Local fun S => hh args S nk) {oj oi : Oper} {s : Sl} {S : Look} {ej ei : Eff} (hap : Oper.apart ops oj oi = true) (hq : quietE ej ei = true)
    (hj : effF P E cf base top ops oj s S = some ej) (hi : effF P E cf base top ops oi (putF s oj.dst ej.res) (over ej.wr S) = some ei) :
    effF P E cf base top ops oi s S = some ei ∧ effF P E cf base top ops oj (putF s oi.dst ei.res) (over ei.wr S) = some ej ∧
    putF (putF s oj.dst ej.res) oi.dst ei.res = putF (putF s oi.dst ei.res) oj.dst ej.res ∧ over ei.wr (over ej.wr S) = over ej.wr (over ei.wr S) := by
  obtain ⟨a1, a2, a3⟩ := Oper.apart_spec hap
  rw [effF_put a1] at hi
  rw [effF_put a3]
  have hput := putF_comm (s := s) (v := ej.res) (u := ei.res) a2
  have nilwr : ∀ {e : Eff}, e.wr.isEmpty = true → e.wr = [] := fun h => by simpa using h
  unfold quietE at hq
  simp only [Bool.or_eq_true, Bool.and_eq_true, beq_iff_eq] at hq
  rcases hq with ((hq | hq) | hq) | hq
  · have e1 := nilwr hq.1
    have e2 := nilwr hq.2
    rw [e1, over_nil] at hi ⊢
    rw [e2, over_nil]
    exact ⟨hi, hj, hput, rfl⟩
  · have e1 := nilwr hq.1
    rw [e1, over_nil] at hi ⊢
    refine ⟨hi, effF_local hI hj hq.2 (by simp), hput, by rw [over_nil]⟩
  · have e1 := nilwr hq.1
    rw [e1, over_nil]
    rw [over_nil]
    exact ⟨effF_local hI hi hq.2 (by simp), hj, hput, rfl⟩
  · split at hq
    · rename_i ra rb hra hrb
      simp only [Bool.and_eq_true] at hq
      obtain ⟨⟨q1, q2⟩, q3⟩ := hq
      refine ⟨effF_local hI hi hrb fun k hk => ?_, effF_local hI hj hra fun k hk => ?_, hput, over_comm q1⟩
      · exact (over_off fun hm => disj_spec q2 k hm hk).symm
      · exact over_off fun hm => disj_spec q3 k hm hk
    · cases hq

/-- The operations of L, in this order, from a state on, with these effects, come to a state. -/
def RunL (P : Program) (E : Env) (cf : FuncId → List SV → Store → Option (SV × Store)) (base top : Nat) (ops : Array Oper) (es : Nat → Eff) (sN : Sl) (SN : Look) : List Nat → Sl → Look → Prop
  | [], s, S => s = sN ∧ S = SN
  | i :: L, s, S => ∃ o, ops[i]? = some o ∧ effF P E cf base top ops o s S = some (es i) ∧ RunL P E cf base top ops es sN SN L (putF s o.dst (es i).res) (over (es i).wr S)

theorem runL_front (hI : ∀ g hh, E.intr g = some hh → ∀ args nk, Local fun S => hh args S nk) {es : Nat → Eff} {sN : Sl} {SN : Look} {i : Nat} {oi : Oper} (hoi : ops[i]? = some oi) {L2 : List Nat} : ∀ (L1 : List Nat) {s : Sl} {S : Look},
    (∀ j ∈ L1, ∀ oj, ops[j]? = some oj → Oper.apart ops oj oi = true ∧ quietE (es j) (es i) = true) → RunL P E cf base top ops es sN SN (L1 ++ i :: L2) s S → RunL P E cf base top ops es sN SN (i :: (L1 ++ L2)) s S := by
  intro L1
  induction L1 with
  | nil => intro s S _ h; exact h
  | cons j L1 ih =>
    intro s S hq h
    obtain ⟨oj, hoj, hj, h⟩ := h
    obtain ⟨oi', hoi', hi, h⟩ := ih (fun k hk => hq k (by simp [hk])) h
    rw [hoi] at hoi'
    cases hoi'
    obtain ⟨q1, q2⟩ := hq j (by simp) oj hoj
    obtain ⟨r1, r2, r3, r4⟩ := eff_swap hI q1 q2 hj hi
    rw [r3, r4] at h
    exact ⟨oi, hoi, r1, oj, hoj, r2, h⟩

end

section
variable {B n0 nt : Nat} {ρ0 : Emb} {G0 : Cs} {w0 : World} {S0 : Look} {cf : FuncId → List SV → Store → Option (SV × Store)} {ops : Array Oper} {Q : Exit → Act → World → Prop}

/-- The places that are not yet listed. -/
def left (N : Nat) (listed : Array Bool) : List Nat := (List.range N).filter fun i => !listed.getD i true

theorem left_mem {N : Nat} {listed : Array Bool} {i : Nat} : i ∈ left N listed ↔ i < N ∧ listed.getD i true = false := by
  unfold left
  simp

theorem left_set {N : Nat} {listed : Array Bool} {i : Nat} (hi : i < N) (hN : listed.size = N) : left N (listed.setIfInBounds i true) = (left N listed).filter (· != i) := by
  unfold left
  rw [List.filter_filter]
  apply List.filter_congr
  intro j hj
  by_cases e : j = i
  · subst e
    simp [hN, hi]
  · rw [getD_set_ne true (Ne.symm e)]
    simp [e]

theorem left_sorted (N : Nat) (listed : Array Bool) : (left N listed).Pairwise (· < ·) := List.Pairwise.filter _ List.pairwise_lt_range

structure AncOk (ops : Array Oper) (anc : List (List Nat)) : Prop where
  size : anc.length = ops.size
  lt : ∀ (j : Nat) o, ops[j]? = some o → ∀ e ∈ o.after, Region.binds .any e = true → e.on < j
  just : ∀ (j : Nat) o l, ops[j]? = some o → anc[j]? = some l → ∀ i ∈ l, ∃ e ∈ o.after, Region.binds .any e = true ∧ (e.on = i ∨ ∃ l', anc[e.on]? = some l' ∧ i ∈ l')
  apart : ∀ (j : Nat) o l i oi, ops[j]? = some o → anc[j]? = some l → i < j → ops[i]? = some oi → i ∉ l → Oper.apart ops oi o = true

theorem ancOk_spec {anc : List (List Nat)} (h : ancOk ops anc = true) : AncOk ops anc := by
  unfold ancOk at h
  simp only [Bool.and_eq_true, decide_eq_true_eq, List.all_eq_true, List.mem_range] at h
  obtain ⟨h0, h1⟩ := h
  have key : ∀ (j : Nat) o l, ops[j]? = some o → anc[j]? = some l → _ := fun j o l ho hl => by
    have := h1 j (Array.getElem?_eq_some_iff.1 ho).1
    rw [ho, hl] at this
    simp only [Bool.and_eq_true, List.all_eq_true, List.mem_range] at this
    exact this
  have hanc : ∀ (j : Nat) o, ops[j]? = some o → ∃ l, anc[j]? = some l := fun j o ho => ⟨_, List.getElem?_eq_getElem (by rw [h0]; exact (Array.getElem?_eq_some_iff.1 ho).1)⟩
  refine ⟨h0, fun j o ho e he hb => ?_, fun j o l ho hl i hi => ?_, fun j o l i oi ho hl hij hoi hni => ?_⟩
  · obtain ⟨l, hl⟩ := hanc j o ho
    have := (key j o l ho hl).1.1 e (by simpa using he)
    simpa [hb] using this
  · have := (key j o l ho hl).1.2 i hi
    rw [List.any_eq_true] at this
    obtain ⟨e, he, hb⟩ := this
    simp only [Bool.and_eq_true, Bool.or_eq_true, beq_iff_eq] at hb
    refine ⟨e, by simpa using he, hb.1, ?_⟩
    rcases hb.2 with h2 | h2
    · exact .inl h2
    · cases hq : anc[e.on]? with
      | none => rw [hq] at h2; simp at h2
      | some l' => rw [hq] at h2; exact .inr ⟨l', rfl, by simpa using h2⟩
  · have := (key j o l ho hl).2 i hij
    simp only [Bool.or_eq_true] at this
    rcases this with h2 | h2
    · exact absurd (by simpa using h2) hni
    · rw [hoi] at h2; exact h2

/-- The dynamic part: whatever isn't bound is quiet. -/
def Quiet (anc : List (List Nat)) (es : Nat → Eff) (N : Nat) : Prop := ∀ (i j : Nat) l, i < j → j < N → anc[j]? = some l → i ∉ l → quietE (es i) (es j) = true

theorem turnsWith_spec {a : Eff} {i : Nat} : ∀ {es : List Eff} {anc : List (List Nat)}, turnsWith i a es anc = true → ∀ (j : Nat) b l, es[j]? = some b → anc[j]? = some l → i ∉ l → quietE a b = true := by
  intro es
  induction es with
  | nil => intro anc _ j b l hb; simp at hb
  | cons b r ih =>
    intro anc h j b' l hb hl hni
    cases anc with
    | nil => simp at hl
    | cons l0 anc =>
      simp only [turnsWith, Bool.and_eq_true, Bool.or_eq_true] at h
      cases j with
      | zero =>
        simp at hb hl
        subst hb hl
        rcases h.1 with h1 | h1
        · exact absurd (by simpa using h1) hni
        · exact h1
      | succ j => exact ih h.2 j b' l (by simpa using hb) (by simpa using hl) hni

theorem turnAll_spec : ∀ {es : List Eff} {anc : List (List Nat)} {n : Nat}, turnAll n es anc = true → ∀ (i j : Nat) a b l, i < j → es[i]? = some a → es[j]? = some b → anc[j]? = some l → n + i ∉ l → quietE a b = true := by
  intro es
  induction es with
  | nil => intro anc n _ i j a b l _ ha; simp at ha
  | cons e r ih =>
    intro anc n h i j a b l hij ha hb hl hni
    cases anc with
    | nil => simp at hl
    | cons l0 anc =>
      simp only [turnAll, Bool.and_eq_true] at h
      obtain ⟨j, rfl⟩ : ∃ j', j = j' + 1 := ⟨j - 1, by omega⟩
      cases i with
      | zero =>
        simp at ha
        subst ha
        exact turnsWith_spec h.1 j b l (by simpa using hb) (by simpa using hl) hni
      | succ i => exact ih h.2 i j a b l (by omega) (by simpa using ha) (by simpa using hb) (by simpa using hl) (by rw [show n + 1 + i = n + (i + 1) by omega]; exact hni)

theorem trace_runL {base top : Nat} : ∀ (l : List Oper) (i : Nat) {σ σ1 : St} {es : List Eff}, ops.toList.drop i = l → traceOps P E cf base top ops l σ = some (σ1, es) → es.length = l.length ∧
    ∀ f : Nat → Eff, (∀ (j : Nat) e, es[j]? = some e → f (i + j) = e) → RunL P E cf base top ops f (get σ1.slots) (get σ1.store) (List.range' i l.length) (get σ.slots) (get σ.store) := by
  intro l
  induction l with
  | nil =>
    intro i σ σ1 es hl h
    simp only [traceOps, Option.some.injEq, Prod.mk.injEq] at h
    obtain ⟨rfl, rfl⟩ := h
    exact ⟨rfl, fun f _ => ⟨rfl, rfl⟩⟩
  | cons o r ih =>
    intro i σ σ1 es hl h
    simp only [traceOps] at h
    split at h
    · rename_i σ2 e hst
      split at h
      · rename_i σ3 es' hrest
        simp only [Option.some.injEq, Prod.mk.injEq] at h
        obtain ⟨rfl, rfl⟩ := h
        obtain ⟨e1, e2, e3⟩ := stepV_eff hst
        have hi : ops[i]? = some o := by
          have := congrArg (fun l => l[0]?) hl
          simpa using this
        obtain ⟨r1, r2⟩ := ih (i + 1) (by
          have := congrArg (List.drop 1) hl
          simpa [List.drop_drop, Nat.add_comm] using this) hrest
        refine ⟨by simp [r1], fun f hf => ?_⟩
        have hf0 : f i = e := hf 0 e rfl
        rw [List.length_cons, List.range'_succ]
        refine ⟨o, hi, by rw [hf0]; exact e1, ?_⟩
        rw [hf0, ← e2, ← e3]
        exact r2 f fun j e' hj => by
          have := hf (j + 1) e' (by simpa using hj)
          rw [show i + 1 + j = i + (j + 1) by omega]
          exact this
      · cases h
    · cases h

theorem any_wp (hE : EnvOk P E) (hI : ∀ g hh, E.intr g = some hh → ∀ args nk, Local fun S => hh args S nk) (hcf : CallsOk P E cf) (hce : CallsEnter P cf) {anc : List (List Nat)} (hA : AncOk ops anc) {es : Nat → Eff} (hq : Quiet anc es ops.size) {sN : Sl} {SN : Look}
    (hQ : ∀ a1 w1, FInv E B n0 nt ρ0 G0 w0 S0 sN SN a1 w1 → Q .normal a1 w1) : ∀ (fuel : Nat) (listed : Array Bool) {s : Sl} {S : Look} {a : Act} {w : World}, listed.size = ops.size → (left ops.size listed).length ≤ fuel →
    (∀ (j : Nat) l, listed.getD j true = true → anc[j]? = some l → ∀ i ∈ l, listed.getD i false = true) →
    RunL P E cf n0 (n0 + 16 * nt) ops es sN SN (left ops.size listed) s S → FInv E B n0 nt ρ0 G0 w0 S0 s S a w → wpAny P .any ops Q fuel listed a w := by
  have hbin : ∀ (listed : Array Bool) (i : Nat), listed.size = ops.size → i < ops.size → (listed.getD i true = listed.getD i false) := fun listed i h1 h2 => by
    have : i < listed.size := by omega
    simp [this]
  have hready0 : ∀ (listed : Array Bool) (i : Nat) L, listed.size = ops.size → left ops.size listed = i :: L → i ∈ Region.ready .any ops listed := by
    intro listed i L hsz hL
    have hi : i ∈ left ops.size listed := by rw [hL]; simp
    obtain ⟨h1, h2⟩ := left_mem.1 hi
    refine mem_ready.2 ⟨h2, ops[i], Array.getElem?_eq_getElem h1, fun e he hb => ?_⟩
    have hlt := hA.lt i ops[i] (Array.getElem?_eq_getElem h1) e he hb
    cases hc : listed.getD e.on false with
    | true => rfl
    | false =>
      have hm : e.on ∈ left ops.size listed := left_mem.2 ⟨by omega, by rw [hbin listed e.on hsz (by omega)]; exact hc⟩
      have hs := left_sorted ops.size listed
      rw [hL] at hm hs
      rcases List.mem_cons.1 hm with h | h
      · omega
      · have := (List.pairwise_cons.1 hs).1 e.on h
        omega
  intro fuel
  induction fuel with
  | zero =>
    intro listed s S a w hsz hlen hcl hrun hF
    have hL : left ops.size listed = [] := List.eq_nil_of_length_eq_zero (by omega)
    rw [hL] at hrun
    obtain ⟨rfl, rfl⟩ := hrun
    refine ⟨?_, hQ a w hF⟩
    cases hr : Region.ready .any ops listed with
    | nil => rfl
    | cons i r =>
      have hi : i ∈ Region.ready .any ops listed := by rw [hr]; simp
      obtain ⟨h1, o, h2, _⟩ := mem_ready.1 hi
      have : i ∈ left ops.size listed := left_mem.2 ⟨(Array.getElem?_eq_some_iff.1 h2).1, h1⟩
      rw [hL] at this
      cases this
  | succ fuel ih =>
    intro listed s S a w hsz hlen hcl hrun hF
    refine ⟨fun hr => ?_, fun i hi => ?_⟩
    · cases hL : left ops.size listed with
      | nil =>
        rw [hL] at hrun
        obtain ⟨rfl, rfl⟩ := hrun
        exact hQ a w hF
      | cons i L =>
        have := hready0 listed i L hsz hL
        rw [hr] at this
        cases this
    · obtain ⟨h1, o, h2, h3⟩ := mem_ready.1 hi
      have hilt := (Array.getElem?_eq_some_iff.1 h2).1
      have him : i ∈ left ops.size listed := left_mem.2 ⟨hilt, h1⟩
      obtain ⟨L1, L2, hL⟩ := List.append_of_mem him
      have hs := left_sorted ops.size listed
      rw [hL] at hs hrun
      obtain ⟨hs1, hs2, hs3⟩ := List.pairwise_append.1 hs
      obtain ⟨l, hl⟩ : ∃ l, anc[i]? = some l := ⟨_, List.getElem?_eq_getElem (by rw [hA.size]; exact hilt)⟩
      have hanc : ∀ k ∈ l, listed.getD k false = true := by
        intro k hk
        obtain ⟨e, he, hb, hk⟩ := hA.just i o l h2 hl k hk
        have hon := h3 e he hb
        have honlt := hA.lt i o h2 e he hb
        rcases hk with rfl | ⟨l', hl', hk⟩
        · exact hon
        · exact hcl e.on l' (by rw [hbin listed e.on hsz (by omega)]; exact hon) hl' k hk
      have hfront := runL_front hI h2 L1 (fun j hj oj hoj => by
        have hji : j < i := hs3 j hj i (by simp)
        have hju : listed.getD j true = false := (left_mem.1 (by rw [hL]; simp [hj])).2
        have hnl : j ∉ l := fun hm => by
          have := hanc j hm
          rw [← hbin listed j hsz (by omega), hju] at this
          cases this
        exact ⟨hA.apart i o l j oj h2 hl hji hoj hnl, hq j i l hji hilt hl hnl⟩) hrun
      obtain ⟨o', ho', he, hrest⟩ := hfront
      rw [h2] at ho'
      cases ho'
      refine step_wp hE hcf hce hF h2 he fun a1 w1 hF1 => ?_
      have hleft : left ops.size (listed.setIfInBounds i true) = L1 ++ L2 := by
        rw [left_set hilt hsz, hL, List.filter_append, List.filter_cons]
        have e1 : L1.filter (· != i) = L1 := List.filter_eq_self.2 fun j hj => by
          have := hs3 j hj i (by simp)
          have hne : j ≠ i := by omega
          simp [hne]
        have e2 : L2.filter (· != i) = L2 := List.filter_eq_self.2 fun j hj => by
          have := (List.pairwise_cons.1 hs2).1 j hj
          have hne : j ≠ i := by omega
          simp [hne]
        rw [e1, e2]
        simp
      refine ih (listed.setIfInBounds i true) (by simpa using hsz) ?_ ?_ (by rw [hleft]; exact hrest) hF1
      · rw [hleft]
        rw [hL] at hlen
        simp at hlen ⊢
        omega
      · intro j lj hj hlj k hk
        by_cases e : i = j
        · subst e
          rw [hl] at hlj
          cases hlj
          exact getD_set_true (hanc k hk)
        · rw [getD_set_ne true e] at hj
          exact getD_set_true (hcl j lj hj hlj k hk)

theorem FInv.drawn {s : Sl} {S : Look} {a : Act} {w : World} (h : FInv E B n0 nt ρ0 G0 w0 S0 s S a w) (n : Nat) : FInv E B n0 nt ρ0 G0 w0 S0 s S a { w with drawn := n } := by
  obtain ⟨⟨ρ, G, h1, h2, h3, h4⟩, h5, h6⟩ := h
  have hw : Grew w { w with drawn := n } := ⟨Nat.le_refl _, fun _ _ => rfl, rfl, rfl, rfl⟩
  have hx : Ext All B n0 ρ G w S ρ G { w with drawn := n } S := ext_grew h1 hw (fun _ _ h => h) (fun _ _ => rfl) (fun k b c hs hk => by rw [h1.dom k hs] at hk; cases hk)
  exact ⟨⟨ρ, G, inv_grew h1 hw, h2.trans hx, fun t sv ht => (h3 t sv ht).ext hx, h4.ext hx⟩, h5, h6⟩

theorem region_drawn (hm : P.follows .mixedOrders = true) (hE : EnvOk P E) (hI : ∀ g hh, E.intr g = some hh → ∀ args nk, Local fun S => hh args S nk) (hcf : CallsOk P E cf) (hce : CallsEnter P cf) {anc : List (List Nat)} (hA : ancOk ops anc = true)
    {σ σ1 : St} {es : List Eff} {a : Act} {w : World} {id : Nat} (hr : traceOps P E cf n0 (n0 + 16 * nt) ops ops.toList σ = some (σ1, es)) (ht : turnAll 0 es anc = true)
    (hF : FInv E B n0 nt ρ0 G0 w0 S0 (get σ.slots) (get σ.store) a w) (hQ : ∀ a1 w1, FInv E B n0 nt ρ0 G0 w0 S0 (get σ1.slots) (get σ1.store) a1 w1 → Q .normal a1 w1) : (Code.region id ops true).wp P Q a w := by
  have hA := ancOk_spec hA
  obtain ⟨h1, h2⟩ := trace_runL (ops := ops) ops.toList 0 rfl hr
  have h1 : es.length = ops.size := by simpa using h1
  refine wp_region_any hm (any_wp hE hI hcf hce hA (es := fun i => (es[i]?).getD { res := .dead }) (fun i j l hij hj hl hni => ?_) hQ ops.size _ (by simp) ?_ (fun j l hj hl i hi => ?_) ?_ (hF.drawn _))
  · have hi : i < es.length := by omega
    have hj' : j < es.length := by omega
    have := turnAll_spec ht i j es[i] es[j] l hij (List.getElem?_eq_getElem hi) (List.getElem?_eq_getElem hj') hl (by simpa using hni)
    simpa [List.getElem?_eq_getElem hi, List.getElem?_eq_getElem hj'] using this
  · unfold left
    exact Nat.le_trans (List.length_filter_le _ _) (by simp)
  · exfalso
    have hjlt : j < ops.size := by
      rw [← hA.size]
      exact (List.getElem?_eq_some_iff.1 hl).1
    simp [hjlt] at hj
  · have hleft : left ops.size (Array.replicate ops.size false) = List.range ops.size := by
      unfold left
      refine List.filter_eq_self.2 fun j hj => ?_
      have := List.mem_range.1 hj
      simp [this]
    rw [hleft, List.range_eq_range']
    have := h2 (fun i => (es[i]?).getD { res := .dead }) fun j e hj => by simp [hj]
    simpa using this

end
end
end Go.Proofs.YticdhmcbooabaaaDoor.V
