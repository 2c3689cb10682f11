/- V18: a call's own text: the evaluator is right. No claim. -/
import Derived.Test.YticdhmcbooabaaaDoor17
set_option linter.unusedVariables false
set_option linter.unusedSimpArgs false
namespace Go.Proofs.YticdhmcbooabaaaDoor.V
open Go

section
variable {B n0 : Nat} {ρ : Emb} {G : Cs} {w : World} {S : Look} {P : Program} {E : Env}

theorem RelV.back {v : Value} {s : SV} (h : RelV ρ G B n0 w S v s) : RelV ρ G B n0 w S v (V.back s) := by
  cases h with
  | pure m x v h => exact .pure m _ v h.norm
  | row k len A cap m z lim xs hk h => exact .row k len A cap m z lim xs hk h
  | ptr k off b c ob hk hr h => exact .ptr k off b c ob hk hr h
  | eptr k len i r v m z lim xs hk hi hle h => exact .eptr k len i r v m z lim xs hk hi hle h
  | tl k len i v m z lim xs hk hi hle h => exact .tl k len i v m z lim xs hk hi hle h
  | hd k len q A cap m z lim xs hk hi hle h => exact .hd k len q A cap m z lim xs hk hi hle h
  | rptr m cs b off hp hc => exact .rptr m cs b off hp hc
  | map k b c ob hk hr h => exact .map k b c ob hk hr h
  | iter k b c ob hk hr h => exact .iter k b c ob hk hr h
  | view k off z n b c cap ob hk hr h hcap => exact .view k off z n b c cap ob hk hr h hcap
  | clo f caps vs hl hc => exact .clo f caps vs hl hc
  | tuple cs vs hl hc => exact .tuple cs vs hl hc
  | agg cs vs hl hc hp => exact .agg cs vs hl hc hp
  | dead v => exact .dead v

def resSem (tmps : Array Value) : ResultVar → Sem Value
  | .tmp t => pure (tmps.getD t undef)
  | .cell a t => do loadVar t (← asAddr (tmps.getD a undef))

theorem loadAt_addr {t : TypeId} {v u : Value} (h : (Instr.loadAt t v).run P w = .ok u w) : (do loadVar t (← asAddr v) : Sem Value).run P w = .ok u w := by
  unfold Instr.loadAt at h
  cases v with
  | pointer p =>
    cases p with
    | some a => exact h
    | none => simp [Instr.sureAddr, stuck, Sem.run] at h
  | _ => simp [Instr.sureAddr, stuck, Sem.run] at h

theorem resOne_sound (h : SInv ρ G B n0 w S) {a : Act} {σ : St} (hS : S = get σ.store) (hs : RelS ρ G B n0 w S (get σ.slots) a) {r : ResultVar} {v : SV} {δ : Store} (hr : resOne P n0 σ r = some (v, δ)) :
    ∃ u G', (resSem a.tmps r).run P w = .ok u w ∧ SInv ρ G' B n0 w (over δ S) ∧ Ext All B n0 ρ G w S ρ G' w (over δ S) ∧ RelV ρ G' B n0 w (over δ S) u v := by
  subst hS
  cases r with
  | tmp t =>
    simp only [resOne] at hr
    split at hr
    · rename_i v0 hv0
      simp only [Option.some.injEq, Prod.mk.injEq] at hr
      obtain ⟨rfl, rfl⟩ := hr
      rw [over_nil]
      exact ⟨_, G, rfl, h, Ext.refl .., (hs t v0 hv0).back⟩
    · cases hr
  | cell t ty =>
    simp only [resOne] at hr
    split at hr
    · rename_i x hx
      split at hr
      · rename_i e he
        simp only [Option.some.injEq, Prod.mk.injEq] at hr
        obtain ⟨rfl, rfl⟩ := hr
        obtain ⟨u, G', r1, r2, r3, r4⟩ := load_sound h (hs t x hx) he
        exact ⟨u, G', loadAt_addr r1, r2, r3, r4.back⟩
      · cases hr
    · cases hr

theorem resAll_sound {a : Act} : ∀ {l : List ResultVar} {σ : St} {G : Cs} {vs : List SV} {S1 : Store}, SInv ρ G B n0 w (get σ.store) → RelS ρ G B n0 w (get σ.store) (get σ.slots) a → resAll P n0 σ l = some (vs, S1) →
    ∃ us G', (l.mapM (resSem a.tmps)).run P w = .ok us w ∧ SInv ρ G' B n0 w (get S1) ∧ Ext All B n0 ρ G w (get σ.store) ρ G' w (get S1) ∧ us.length = vs.length ∧ ∀ (i : Nat) u s, us[i]? = some u → vs[i]? = some s → RelV ρ G' B n0 w (get S1) u s := by
  intro l
  induction l with
  | nil =>
    intro σ G vs S1 h hs hr
    simp only [resAll, Option.some.injEq, Prod.mk.injEq] at hr
    obtain ⟨rfl, rfl⟩ := hr
    exact ⟨[], G, rfl, h, Ext.refl .., rfl, fun i u s hu => by simp at hu⟩
  | cons r l ih =>
    intro σ G vs S1 h hs hr
    simp only [resAll] at hr
    split at hr
    · rename_i v δ h0
      split at hr
      · rename_i vs' S2 hrest
        simp only [Option.some.injEq, Prod.mk.injEq] at hr
        obtain ⟨rfl, rfl⟩ := hr
        obtain ⟨u, G1, q1, q2, q3, q4⟩ := resOne_sound h rfl hs h0
        have hst : get (δ ++ σ.store) = over δ (get σ.store) := get_over ..
        obtain ⟨us, G2, p1, p2, p3, p4, p5⟩ := ih (σ := ⟨σ.slots, δ ++ σ.store⟩) (G := G1) (by simp only; rw [hst]; exact q2) (fun t sv ht => by simp only; rw [hst]; exact (hs t sv ht).ext q3) hrest
        simp only [hst] at p3
        refine ⟨u :: us, G2, ?_, p2, q3.trans p3, by simp [p4], fun i u' s hu hs' => ?_⟩
        · simp only [List.mapM_cons, Sem.run_bind, q1, Result.andThen_ok, p1, Sem.run_pure]
        · cases i with
          | zero =>
            simp at hu hs'
            subst hu hs'
            exact q4.ext p3
          | succ i => exact p5 i u' s (by simpa using hu) (by simpa using hs')
      · cases hr
    · cases hr

theorem results_eq (fn : Func) (tmps : Array Value) : results fn tmps = (do let vs ← fn.results.mapM (resSem tmps); pure (if h : vs.size = 1 then vs[0] else .tuple vs)) := by
  have key : ∀ f : ResultVar → Sem Value, f = resSem tmps → (do let vs ← fn.results.mapM f; pure (if h : vs.size = 1 then vs[0] else .tuple vs) : Sem Value) = (do let vs ← fn.results.mapM (resSem tmps); pure (if h : vs.size = 1 then vs[0] else .tuple vs)) := by
    rintro f rfl
    rfl
  unfold results
  refine key _ ?_
  funext r
  cases r <;> rfl

theorem results_run {fn : Func} {tmps : Array Value} {us : List Value} (h : (fn.results.toList.mapM (resSem tmps)).run P w = .ok us w) : (results fn tmps).run P w = .ok (if h : us.length = 1 then us[0] else .tuple us.toArray) w := by
  rw [results_eq, Array.mapM_eq_mapM_toList]
  simp only [Sem.run_bind, Sem.run_map, h, Result.andThen_ok, Sem.run_pure]
  congr 1

theorem single_rel {us : List Value} {vs : List SV} (hl : us.length = vs.length) (hr : ∀ (i : Nat) u s, us[i]? = some u → vs[i]? = some s → RelV ρ G B n0 w S u s) : RelV ρ G B n0 w S (if h : us.length = 1 then us[0] else .tuple us.toArray) (single vs) := by
  split
  · rename_i h
    cases us with
    | nil => simp at h
    | cons u us =>
      cases us with
      | cons => simp at h
      | nil =>
        cases vs with
        | nil => simp at hl
        | cons v vs =>
          cases vs with
          | cons => simp at hl
          | nil => exact hr 0 u v rfl rfl
  · rename_i h
    have : single vs = .tuple vs := by
      cases vs with
      | nil => rfl
      | cons v vs =>
        cases vs with
        | nil => simp at hl; exact absurd hl h
        | cons => rfl
    rw [this]
    exact .tuple vs _ (by simpa using hl) fun i u s hu hs => hr i u s (by simpa using hu) hs

/-- A row that is handed back is nobody else's. -/
theorem reset_sound {ρ0 : Emb} {G0 : Cs} {w0 : World} {S0 : Look} {S1 : Store} {u : Value} {res : SV} (hg0 : ∀ b o, G0 b o → b < B) (h : SInv ρ G B n0 w (get S1)) (hx : Ext All B n0 ρ0 G0 w0 S0 ρ G w (get S1)) (hS0 : ∀ k, S0 k ≠ none → k < n0) (hu : RelV ρ G B n0 w (get S1) u res) :
    ∃ G', SInv ρ G' B n0 w (get (reset n0 res S1)) ∧ Ext All B n0 ρ0 G0 w0 S0 ρ G' w (get (reset n0 res S1)) ∧ RelV ρ G' B n0 w (get (reset n0 res S1)) u res ∧ ((∀ i, get (reset n0 res S1) i ≠ none ↔ i < (reset n0 res S1).length) ↔ ∀ i, get S1 i ≠ none ↔ i < S1.length) := by
  unfold reset
  split
  · rename_i hn
    split
    · rename_i m z lim xs len hro
      split
      · rename_i hc
        simp only [Bool.and_eq_true, decide_eq_true_eq] at hc
        obtain ⟨hlen, hsc⟩ := hc
        have hg : ∀ (l : Nat) (m : Bool) k, get [(0, Ob.row m z l xs)] k = if k = 0 then some (.row m z l xs) else none := fun l m k => by
          simp only [get]
          by_cases e : 0 = k
          · subst e; simp
          · rw [if_neg e, if_neg (Ne.symm e)]
        -- the cells of its block are free again
        have hGb : ∀ b c, ρ 0 = some (b, c) → B ≤ b := fun b c hb => h.newk 0 b c (by omega) hb
        refine ⟨fun b o => G b o ∧ ∀ c, ρ 0 ≠ some (b, c), ⟨h.inj, h.lt, fun b o hb => h.gdef b o hb.1, ?_, ?_, ?_, h.newk, h.bsz⟩, ⟨fun b o hb => ⟨⟨(hx.g b o hb).1, fun c hc => ?_⟩, (hx.g b o hb).2⟩, ?_, hx.frame, hx.own, fun b o hb => hx.gnew b o hb.1, hx.size, hx.os, hx.tape, hx.out⟩, ?_, ?_⟩
        · intro k b c ob o hk hs hgg
          rw [hg] at hs
          split at hs
          · rename_i e
            subst e
            exact absurd hk (hgg.2 c)
          · cases hs
        · intro k ob hs
          rw [hg] at hs
          split at hs
          · rename_i e
            subst e
            cases hs
            obtain ⟨o1, o2, o3⟩ := h.obj 0 (.row m z lim xs) (by rw [hg]; simp)
            refine ⟨Nat.zero_le _, fun hn => (o2 hn).imp id fun ⟨e, _⟩ => ⟨by omega, fun j x hj => by omega⟩, fun b cap d hb => ?_⟩
            obtain ⟨h4, h5, cells, T, fr, vs, h6, h7, h8, h9, h10⟩ := o3 b cap d hb
            exact ⟨h4, h5, cells, T, fr, vs, h6, h7, h8, fun o _ ho => by omega, fun j x hj => ⟨(h10 j x hj).1, (h10 j x hj).2.1.scalar (allScalar_get hsc j x hj), (h10 j x hj).2.2⟩⟩
          · cases hs
        · intro k hs
          refine h.dom k ?_
          rw [hg] at hs ⊢
          split at hs
          · cases hs
          · rename_i e; rw [if_neg e]
        · have h1 := hGb b c hc
          have h2 := hg0 b o hb
          omega
        · intro k ob _ hk
          have := hS0 k (by rw [hk]; simp)
          omega
        · have hrow : ∀ u, RelV ρ G B n0 w (get [(0, Ob.row m z lim xs)]) u (.row 0 len) → RelV ρ (fun b o => G b o ∧ ∀ c, ρ 0 ≠ some (b, c)) B n0 w (get [(0, Ob.row true z 0 xs)]) u (.row 0 len) := by
            intro u hu
            cases hu with
            | row _ _ A cap m1 z1 lim1 xs1 hk hr =>
              rw [hg] at hk
              simp only [if_true, Option.some.injEq, Ob.row.injEq] at hk
              obtain ⟨rfl, rfl, rfl, rfl⟩ := hk
              rcases hr with ⟨e1, e2⟩ | ⟨e1, e2, _⟩
              · exact .row 0 len A cap true z 0 xs (by rw [hg]; simp) (.inl ⟨e1, e2⟩)
              · omega
          have hplain : ∀ u s, plainV s = true → RelV ρ G B n0 w (get [(0, Ob.row m z lim xs)]) u s → RelV ρ (fun b o => G b o ∧ ∀ c, ρ 0 ≠ some (b, c)) B n0 w (get [(0, Ob.row true z 0 xs)]) u s := by
            intro u s hp hu
            cases s <;> simp [plainV] at hp
            cases hu with
            | pure m x v hv => exact .pure _ _ _ (hv.scalar hp)
          unfold rowOf at hro
          split at hro
          · rename_i len'
            cases hro
            exact hrow u hu
          · rename_i l
            split at hro
            · rename_i len' hf
              cases hro
              cases hu with
              | tuple _ vs hl hc =>
                refine .tuple l vs hl fun i v c hv hcc => ?_
                have h0 := hc i v c hv hcc
                by_cases hp : plainV c = true
                · exact hplain v c hp h0
                · have hm : c ∈ l.filter fun v => !plainV v := List.mem_filter.2 ⟨List.mem_of_getElem? hcc, by simpa using hp⟩
                  rw [hf] at hm
                  simp at hm
                  subst hm
                  exact hrow v h0
            · cases hro
          · cases hro
        · constructor
          · intro h i; have := h i; rw [hg] at this ⊢; simp
          · intro h i; have := h i; rw [hg] at this ⊢; simp
      · exact ⟨G, h, hx, hu, Iff.rfl⟩
    · exact ⟨G, h, hx, hu, Iff.rfl⟩
  · exact ⟨G, h, hx, hu, Iff.rfl⟩

theorem takeAll_length {look : Look} {f : Nat → Option Nat} {at_ : Nat → Nat} {ks : List Nat} : ∀ {n : Nat}, (∀ k ∈ ks, look k ≠ none) → (takeAll look f at_ ks n).length = ks.length := by
  induction ks with
  | nil => intro n _; rfl
  | cons a r ih =>
    intro n h
    obtain ⟨ob, hob⟩ := Option.ne_none_iff_exists'.1 (h a (by simp))
    simp only [takeAll, hob, List.length_cons]
    rw [ih fun k hk => h k (by simp [hk])]

theorem leave_sound {ρ0 : Emb} {G0 : Cs} {w0 : World} {S0 : Look} {S1 : Store} {u : Value} {res : SV} (h : SInv ρ G B n0 w (get S1)) (hx : Ext All B n0 ρ0 G0 w0 S0 ρ G w (get S1)) (hS0 : ∀ k, S0 k ≠ none ↔ k < n0) (hu : RelV ρ G B n0 w (get S1) u res) :
    ∃ ρ', SInv ρ' G B n0 w (get (leave n0 res S1).2) ∧ Ext All B n0 ρ0 G0 w0 S0 ρ' G w (get (leave n0 res S1).2) ∧ RelV ρ' G B n0 w (get (leave n0 res S1).2) u (leave n0 res S1).1 ∧ ∀ i, get (leave n0 res S1).2 i ≠ none ↔ i < (leave n0 res S1).2.length := by
  obtain ⟨k1, k2, k3⟩ := reach_keys (get S1) 256 (List.range n0 ++ refs res) n0
  obtain ⟨p1, p2, p3⟩ := pack_sound h hx (fun k hk => (hS0 k).1 hk) k1 k2 (Nat.le_refl n0)
  unfold leave
  simp only
  rw [pack_store n0 n0 (Nat.le_refl _)]
  have hold : ∀ k ∈ List.range n0, get S1 k ≠ none := fun k hk => by
    obtain ⟨ob, hob⟩ := Option.ne_none_iff_exists'.1 ((hS0 k).2 (List.mem_range.1 hk))
    obtain ⟨ob', h1, _⟩ := hx.key k ob trivial hob
    rw [h1]; simp
  refine ⟨_, p1, p2, hu.ren p3 (Nat.le_refl _), fun i => ?_⟩
  rw [List.length_append, takeAll_length hold, takeAll_length k3, List.length_range]
  unfold packS packG
  by_cases hi : i < n0
  · rw [if_pos hi]
    simp only [Option.bind_some]
    obtain ⟨ob, hob⟩ := Option.ne_none_iff_exists'.1 (hold i (List.mem_range.2 hi))
    simp only [hob, Option.map_some, ne_eq, reduceCtorEq, not_false_eq_true, true_iff]
    omega
  · rw [if_neg hi, if_pos (by omega)]
    constructor
    · intro hne
      refine Classical.byContradiction fun hge => ?_
      rw [List.getElem?_eq_none (by omega)] at hne
      exact hne rfl
    · intro hlt
      have hlt' : i - n0 < ((reach (get S1) 256 (List.range n0 ++ refs res) []).filter fun k => !decide (k < n0)).length := by omega
      rw [List.getElem?_eq_getElem hlt']
      obtain ⟨ob, hob⟩ := Option.ne_none_iff_exists'.1 (k3 _ (List.getElem_mem hlt'))
      simp [hob]

theorem argSlots_get {args : List SV} : ∀ {i t : Nat} {sv : SV}, get (argSlots i args) t = some sv → i ≤ t ∧ args[t - i]? = some sv := by
  induction args with
  | nil => intro i t sv h; simp [argSlots, get] at h
  | cons v r ih =>
    intro i t sv h
    simp only [argSlots, get] at h
    split at h
    · rename_i e
      cases h
      subst e
      exact ⟨Nat.le_refl _, by simp⟩
    · obtain ⟨h1, h2⟩ := ih h
      refine ⟨by omega, ?_⟩
      rw [show t - i = (t - (i + 1)) + 1 by omega]
      simpa using h2

theorem enters_of {g : Nat} {fn : Func} {c : Code} (hf : P.funcs[g]? = some fn) (hb : fn.body = some c) (hn : fn.name ≠ "runtime.NumGoroutine") : Enters P g := by
  intro args w
  unfold callFunc
  simp only [Sem.run_bind, run_program, Result.andThen_ok, hf]
  have : (fn.name == "runtime.NumGoroutine") = false := by simpa using hn
  simp only [this, hb]
  rfl

theorem callF_enters (hE : EnvAll P E) : ∀ n, CallsEnter P (callF P E n) := by
  intro n g args S0 r h
  cases n with
  | zero => simp [callF] at h
  | succ n =>
    simp only [callF] at h
    split at h
    · rename_i fn hf
      split at h
      · rename_i c hb
        exact enters_of hf hb (hE.name g fn hf)
      · cases h
    · cases h

theorem callF_sound (hE : EnvAll P E) : ∀ n, CallsOk P E (callF P E n) := by
  intro n
  induction n with
  | zero => intro g args S0 res S1 h; simp [callF] at h
  | succ n ih =>
    intro g args S0 res S1 h vals ρ G w hS0 hI hgl hl hr
    simp only [callF] at h
    split at h
    · rename_i fn hf
      split at h
      · rename_i c hb
        split at h
        · cases h
        · rename_i hnt
          have hF : FInv E w.heap.size S0.length fn.ntmps ρ G w (get S0) (get (argSlots 0 args)) (get S0) { tmps := vals ++ Array.replicate (fn.ntmps - vals.size) undef, defers := [] } w := by
            refine ⟨⟨ρ, G, hI, Ext.refl .., fun t sv ht => ?_, hgl⟩, by simp; omega, rfl⟩
            obtain ⟨_, h2⟩ := argSlots_get ht
            simp only [Nat.sub_zero] at h2
            have hlt : t < vals.size := by rw [hl]; exact (List.getElem?_eq_some_iff.1 h2).1
            have hg : vals[t]? = some vals[t] := Array.getElem?_eq_getElem hlt
            have := hr t _ sv hg h2
            simp only [Array.getD_eq_getD_getElem?]
            rw [Array.getElem?_append_left hlt, hg]
            exact this
          have hfin : ∀ (σ : St) (a1 : Act) (w1 : World), FInv E w.heap.size S0.length fn.ntmps ρ G w (get S0) (get σ.slots) (get σ.store) a1 w1 →
              (match resAll P S0.length σ fn.results.toList with
                | some (vs, S) => some ((leave S0.length (single vs) S).1, reset S0.length (leave S0.length (single vs) S).1 (leave S0.length (single vs) S).2)
                | none => none) = some (res, S1) →
              a1.defers = [] ∧ ∃ v, (results fn a1.tmps).run P w1 = .ok v w1 ∧ CallPost w.heap.size S0.length ρ G w (get S0) res S1 (.returned v) w1 := by
            intro σ a1 w1 hF1 hres
            obtain ⟨⟨ρ1, G1, q1, q2, q3, q4⟩, q5, q6⟩ := hF1
            refine ⟨q6, ?_⟩
            split at hres
            · rename_i vs S2 hra
              simp only [Option.some.injEq, Prod.mk.injEq] at hres
              obtain ⟨rfl, rfl⟩ := hres
              obtain ⟨us, G2, p1, p2, p3, p4, p5⟩ := resAll_sound q1 q3 hra
              refine ⟨_, results_run p1, ?_⟩
              obtain ⟨ρ2, l1, l2, l3, l4⟩ := leave_sound p2 (q2.trans p3) (fun k => hS0 k) (single_rel p4 p5)
              obtain ⟨G3, r1, r2, r3, r4⟩ := reset_sound (fun b o hb => hI.gdef b o hb) l1 l2 (fun k hk => (hS0 k).1 hk) l3
              exact ⟨_, ρ2, G3, rfl, r1, r2, r3, r4.2 l4⟩
            · cases hres
          refine calls_of_wp hf hb ?_
          have hcode := hE.code g fn c hf hb
          split at h
          · rename_i σ hex
            refine ((exec_sound hE ih (callF_enters hE n) (fun k hk => (hS0 k).1 hk) n).1 c hex hcode hF fun a1 w1 hF1 => ?_)
            exact hfin σ a1 w1 hF1 h
          · rename_i σ hex
            refine ((exec_sound hE ih (callF_enters hE n) (fun k hk => (hS0 k).1 hk) n).1 c hex hcode hF fun a1 w1 hF1 => ?_)
            exact hfin σ a1 w1 hF1 h
          · cases h
      · cases h
    · cases h

end
end Go.Proofs.YticdhmcbooabaaaDoor.V
