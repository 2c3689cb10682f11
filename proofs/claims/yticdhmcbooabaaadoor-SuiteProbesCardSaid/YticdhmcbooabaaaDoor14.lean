/- V14: every operation is told rightly. No claim. -/
import Derived.Test.YticdhmcbooabaaaDoor13
set_option linter.unusedVariables false
set_option linter.unusedSimpArgs false
namespace Go.Proofs.YticdhmcbooabaaaDoor.V
open Go

section
variable {B n0 : Nat} {ρ : Emb} {G : Cs} {w : World} {S : Look} {P : Program} {E : Env}

/-- A call of this function enters its text. -/
def Enters (P : Program) (g : FuncId) : Prop := ∀ (args : Array Value) (w : World), (callFunc g args).run P w = .ok (.enter g args) w

def CallsEnter (P : Program) (cf : FuncId → List SV → Store → Option (SV × Store)) : Prop := ∀ g args S0 r, cf g args S0 = some r → Enters P g

def Returns (B n0 : Nat) (ρ : Emb) (G : Cs) (w : World) (S : Look) (e : Eff) : Ending → World → Prop := fun en w' =>
  ∃ u ρ' G', en = .returned u ∧ SInv ρ' G' B n0 w' (over e.wr S) ∧ Ext All B n0 ρ G w S ρ' G' w' (over e.wr S) ∧ RelV ρ' G' B n0 w' (over e.wr S) u e.res

structure EnvOk (P : Program) (E : Env) : Prop where
  eq : EnvEq P E
  intr : ∀ g hh, E.intr g = some hh → Enters P g ∧ ∀ (B n0 nk : Nat) (ρ : Emb) (G : Cs) (w : World) (S : Look) (args : List SV) (vals : Array Value) (e : Eff), SInv ρ G B n0 w S → n0 ≤ nk → hh args S nk = some e →
    vals.size = args.length → (∀ (i : Nat) v s, vals[i]? = some v → args[i]? = some s → RelV ρ G B n0 w S v s) → Calls P g vals w (Returns B n0 ρ G w S e)

/-- What an operation comes to, as the walk needs it. -/
def Goes (P : Program) (B n0 : Nat) (ρ : Emb) (G : Cs) (w : World) (S : Look) (o : Oper) (a : Act) (e : Eff) : Prop :=
  ∀ (K : Act → World → Prop) (Q : Exit → Act → World → Prop),
    (∀ u ρ' G' w', SInv ρ' G' B n0 w' (over e.wr S) → Ext All B n0 ρ G w S ρ' G' w' (over e.wr S) → RelV ρ' G' B n0 w' (over e.wr S) u e.res → K (a.put o.dst u) w') → o.wp P a w K Q

theorem exec_of {ρ : Operand → Value} {o : Oper} {op : Op} (ho : o.op = op) : execOp ρ o = execOp ρ { o with op := op } := by
  cases o
  cases ho
  rfl

theorem goes1 {o : Oper} {a : Act} {e : Eff} {s : Sem Value} (hx : execOp a.eval o = (do pure (.value (← s)))) (hc : Comes1 P B n0 ρ G w S s e) : Goes P B n0 ρ G w S o a e := by
  intro K Q hK
  obtain ⟨u, ρ', G', w', r1, r2, r3, r4⟩ := hc
  unfold Oper.wp
  rw [hx]
  simp only [Sem.run_bind, r1, Result.andThen_ok, Sem.run_pure, Oper.upon_value]
  exact hK u ρ' G' w' r2 r3 r4

theorem goes0 {o : Oper} {a : Act} {e : Eff} {s : Sem Unit} (hx : execOp a.eval o = (do s; pure .skip)) (hc : Comes0 P B n0 ρ G w S s e) : Goes P B n0 ρ G w S o a e := by
  intro K Q hK
  obtain ⟨ρ', G', w', r1, r2, r3, r4⟩ := hc
  unfold Oper.wp
  rw [hx]
  simp only [Sem.run_bind, r1, Result.andThen_ok, Sem.run_pure, Oper.upon_skip]
  exact hK undef ρ' G' w' r2 r3 (by rw [r4]; exact .dead _)

/-- One that computes a value and leaves the world. -/
theorem goesv (h : SInv ρ G B n0 w S) {o : Oper} {a : Act} {e : Eff} {u : Value} (hx : (execOp a.eval o).run P w = .ok (.value u) w) (hw : e.wr = []) (hv : RelV ρ G B n0 w S u e.res) : Goes P B n0 ρ G w S o a e := by
  intro K Q hK
  unfold Oper.wp
  rw [hx, Oper.upon_value]
  exact hK u ρ G w (by rw [hw, over_nil]; exact h) (by rw [hw, over_nil]; exact Ext.refl ..) (by rw [hw, over_nil]; exact hv)

theorem firstFree_spec {n : Nat} : ∀ {k j : Nat}, firstFree S k n = some j → k ≤ j ∧ S j = none := by
  induction n with
  | zero => intro k j h; simp [firstFree] at h
  | succ n ih =>
    intro k j h
    simp only [firstFree] at h
    split at h
    · rename_i hk
      cases h
      exact ⟨Nat.le_refl _, by simpa using hk⟩
    · obtain ⟨h1, h2⟩ := ih h
      exact ⟨by omega, h2⟩

/-- A new row of nothing. -/
theorem new_nil (h : SInv ρ G B n0 w S) {k : Nat} (hk : S k = none) (hn : n0 ≤ k) :
    SInv ρ G B n0 w (over [(k, .row true 0 0 [])] S) ∧ Ext All B n0 ρ G w S ρ G w (over [(k, .row true 0 0 [])] S) ∧ RelV ρ G B n0 w (over [(k, .row true 0 0 [])] S) (.slice none 0 0) (.row k 0) := by
  have hnew := inv_new (ρ' := ρ) (p := none) (ob := .row true 0 0 []) (w' := w) (S' := over [(k, Ob.row true 0 0 [])] S) h (Grew.refl w) hk (fun j => over_one ..)
    (fun j => by
      split
      · rename_i e; subst e; exact h.dom k hk
      · rfl) (fun b c h => by cases h) (fun _ => ⟨Nat.le_refl _, fun _ => .inl rfl, fun b c d hb => by rw [h.dom k hk] at hb; cases hb⟩)
  exact ⟨hnew.1, hnew.2, .row k 0 none 0 true 0 0 [] (by rw [over_one, if_pos rfl]) (.inl ⟨rfl, by rw [h.dom k hk]; exact ⟨rfl, rfl, rfl⟩⟩)⟩

theorem nilSlice_val {x : Operand} (h : isNilSlice x = true) (a : Act) : a.eval x = .slice none 0 0 := by
  cases x <;> simp [isNilSlice] at h
  split at h
  · rename_i e; cases e; rfl
  · cases h

theorem move_goes (h : SInv ρ G B n0 w S) (hgl : GlobOk E G B w) {s : Nat → Option SV} {a : Act} (hs : RelS ρ G B n0 w S s a) {o : Oper} {x : Operand} {nk : Nat} (hn : n0 ≤ nk) (hx : execOp a.eval o = pure (.value (a.eval x))) {e : Eff}
    (he : moveV nk S (isNilSlice x) (evalO E s x) = some e) : Goes P B n0 ρ G w S o a e := by
  unfold moveV at he
  split at he
  · rename_i hnil
    split at he
    · rename_i k hk
      simp only [Option.some.injEq] at he
      subst he
      obtain ⟨k1, k2⟩ := firstFree_spec hk
      obtain ⟨n1, n2, n3⟩ := new_nil h k2 (by omega)
      intro K Q hK
      unfold Oper.wp
      rw [hx, Sem.run_pure, Oper.upon_value, nilSlice_val hnil]
      exact hK _ ρ G w n1 n2 n3
    · cases he
  · simp only [one, Option.some.injEq] at he
    subst he
    exact goesv h (by rw [hx, Sem.run_pure]) rfl (eval_rel hgl hs x)

theorem rel_map {xs : List Operand} {a : Act} {s : Nat → Option SV} (hgl : GlobOk E G B w) (hs : RelS ρ G B n0 w S s a) (i : Nat) (v : Value) (c : SV) (hv : (xs.map a.eval)[i]? = some v) (hc : (xs.map (evalO E s))[i]? = some c) : RelV ρ G B n0 w S v c := by
  rw [List.getElem?_map] at hv hc
  cases hx : xs[i]? with
  | none => rw [hx] at hv; cases hv
  | some x =>
    rw [hx] at hv hc
    cases hv
    cases hc
    exact eval_rel hgl hs x

theorem parts_rel {ps : Array (Nat × Operand)} {a : Act} {s : Nat → Option SV} (hgl : GlobOk E G B w) (hs : RelS ρ G B n0 w S s a) :
    (ps.map fun p => (p.1, a.eval p.2)).size = (ps.toList.map fun p => (p.1, evalO E s p.2)).length ∧
    ∀ (i : Nat) p q, (ps.map fun p => (p.1, a.eval p.2))[i]? = some p → (ps.toList.map fun p => (p.1, evalO E s p.2))[i]? = some q → p.1 = q.1 ∧ RelV ρ G B n0 w S p.2 q.2 := by
  refine ⟨by simp, fun i p q hp hq => ?_⟩
  rw [Array.getElem?_map] at hp
  rw [List.getElem?_map, Array.getElem?_toList] at hq
  cases hx : ps[i]? with
  | none => rw [hx] at hp; cases hp
  | some x =>
    rw [hx] at hp hq
    cases hp
    cases hq
    exact ⟨rfl, eval_rel hgl hs x.2⟩

theorem callV_enters {cf : FuncId → List SV → Store → Option (SV × Store)} {nk : Nat} {br : Bool} {g : FuncId} {args : List SV} {e : Eff} (he : callV cf n0 nk br S g args = some e) : ∃ as S0 r, cf g as S0 = some r := by
  unfold callV at he
  split at he
  · cases he
  · simp only at he
    split at he
    · split at he
      · cases he
      · rename_i res S1 hres
        exact ⟨_, _, _, hres⟩
    · split at he
      · cases he
      · rename_i res S1 hres
        exact ⟨_, _, _, hres⟩

/-- A call, of a function value that is known. -/
theorem call_goes {o : Oper} {a : Act} {e : Eff} {c : Call} {f : Operand} {g : FuncId} {vs : Array Value} (ho : o.op = .call c) (hcal : c.callee = .value f) (hf : a.eval f = .func (.func g) #[] vs) (hen : Enters P g)
    (hc : Calls P g (c.args.map a.eval ++ vs) w (Returns B n0 ρ G w S e)) : Goes P B n0 ρ G w S o a e := by
  intro K Q hK
  have hx : (execOp a.eval o).run P w = .ok (.enter g (c.args.map a.eval ++ vs)) w := by
    unfold execOp
    simp only [ho]
    unfold resolve
    simp only [hcal, hf, Deferred.ofValue, Sem.run_bind, Sem.run_pure, Result.andThen_ok, invoke]
    rw [show (#[] ++ c.args.map a.eval : Array Value) = c.args.map a.eval by simp]
    exact hen _ _
  unfold Oper.wp
  rw [hx, Oper.upon_enter]
  refine hc.mono ?_
  rintro en w' ⟨u, ρ', G', rfl, h1, h2, h3⟩
  exact hK u ρ' G' w' h1 h2 h3

theorem builtin_exec {o : Oper} {a : Act} {c : Call} {b : Builtin} (ho : o.op = .call c) (hcal : c.callee = .builtin b) : ∃ consts, execOp a.eval o = builtin b c.argTypes o.type consts (c.args.map a.eval) := by
  refine ⟨c.args.map fun | .const _ => true | _ => false, ?_⟩
  unfold execOp
  simp only [ho]
  unfold resolve
  simp only [hcal]
  rfl

theorem min_run {k : IntKind} {a n : Int} {l : List SV} {vs : List Value} {args : Array TypeId} {rt : TypeId} (hl : vs.length = l.length) (hr : ∀ (i : Nat) v s, vs[i]? = some v → l[i]? = some s → RelV ρ G B n0 w S v s) (h : minV a l = some n) :
    (Builtin.min_ args rt (.int k a :: vs).toArray).run P w = .ok (.int k n) w := by
  unfold Builtin.min_
  exact min_fold hl hr h

theorem max_run {k : IntKind} {a n : Int} {l : List SV} {vs : List Value} {args : Array TypeId} {rt : TypeId} (hl : vs.length = l.length) (hr : ∀ (i : Nat) v s, vs[i]? = some v → l[i]? = some s → RelV ρ G B n0 w S v s) (h : maxV a l = some n) :
    (Builtin.max_ args rt (.int k a :: vs).toArray).run P w = .ok (.int k n) w := by
  unfold Builtin.max_
  exact max_fold hl hr h

theorem builtin_goes (h : SInv ρ G B n0 w S) (hgl : GlobOk E G B w) {s : Nat → Option SV} {a : Act} (hs : RelS ρ G B n0 w S s a) {o : Oper} {c : Call} {b : Builtin} (ho : o.op = .call c) (hcal : c.callee = .builtin b) {nk : Nat} (hn : n0 ≤ nk) {e : Eff}
    (he : callB P n0 nk S b (isNilOp c.args[0]?) c.argTypes (c.args.toList.map (evalO E s)) = some e) : Goes P B n0 ρ G w S o a e := by
  obtain ⟨consts, hx⟩ := builtin_exec (a := a) ho hcal
  have hargs : c.args.map a.eval = (c.args.toList.map a.eval).toArray := by
    apply Array.ext'
    simp
  have hrel := fun i v s' => rel_map (xs := c.args.toList) (E := E) hgl hs i v s'
  have hnil : isNilOp c.args[0]? = true → (c.args.toList.map a.eval)[0]? = some (.slice none 0 0) := by
    intro hn
    unfold isNilOp at hn
    split at hn
    · rename_i x hx0
      rw [List.getElem?_map, Array.getElem?_toList, hx0]
      simp [nilSlice_val hn]
    · cases hn
  rw [hargs] at hx
  generalize c.args.toList.map a.eval = vs at *
  generalize hss : c.args.toList.map (evalO E s) = ss at *
  have hlen : vs.length = ss.length := by
    rw [← hss]
    have := congrArg Array.size hargs
    simpa using this.symm
  clear hargs
  unfold callB at he
  split at he
  · -- len
    rename_i x
    obtain ⟨v, rfl⟩ : ∃ v, vs = [v] := by
      cases vs with
      | nil => simp at hlen
      | cons v r => cases r with
        | nil => exact ⟨v, rfl⟩
        | cons => simp at hlen
    split at he
    · rename_i t ht
      exact goes1 (s := Builtin.len_ c.argTypes o.type #[v]) (by rw [hx]; rfl) (len_sound h ht (hrel 0 v x rfl rfl) he)
    · cases he
  · -- append
    rename_i s0 x
    obtain ⟨v, u, rfl⟩ : ∃ v u, vs = [v, u] := by
      cases vs with
      | nil => simp at hlen
      | cons v r => cases r with
        | nil => simp at hlen
        | cons u r => cases r with
          | nil => exact ⟨v, u, rfl⟩
          | cons => simp at hlen
    exact goes1 (s := Builtin.append_ c.argTypes o.type #[v, u]) (by rw [hx]; rfl) (append_sound h hn (hrel 0 v s0 rfl rfl) (hrel 1 u x rfl rfl) (fun hb => by simpa using hnil hb) he)
  · -- copy
    rename_i d x
    obtain ⟨v, u, rfl⟩ : ∃ v u, vs = [v, u] := by
      cases vs with
      | nil => simp at hlen
      | cons v r => cases r with
        | nil => simp at hlen
        | cons u r => cases r with
          | nil => exact ⟨v, u, rfl⟩
          | cons => simp at hlen
    exact goes1 (s := Builtin.copy_ c.argTypes o.type #[v, u]) (by rw [hx]; rfl) (copy_sound h (hrel 0 v d rfl rfl) (hrel 1 u x rfl rfl) he)
  · -- clear
    rename_i x
    obtain ⟨v, rfl⟩ : ∃ v, vs = [v] := by
      cases vs with
      | nil => simp at hlen
      | cons v r => cases r with
        | nil => exact ⟨v, rfl⟩
        | cons u r => simp at hlen
    exact goes1 (s := Builtin.clear_ c.argTypes o.type #[v]) (by rw [hx]; rfl) (clear_sound h (hrel 0 v x rfl rfl) he)
  · -- min
    rename_i m k n0' r
    split at he
    · rename_i n hm
      simp only [Option.some.injEq] at he
      subst he
      cases vs with
      | nil => simp at hlen
      | cons v vs =>
        have h0 := hrel 0 v _ rfl rfl
        cases h0 with
        | pure _ _ _ h0 =>
          cases h0
          refine goes1 (s := Builtin.min_ c.argTypes o.type (.int k n0' :: vs).toArray) (by rw [hx]; rfl) (Comes1.still h (min_run (by simpa using hlen) (fun i v s hv hs => hrel (i + 1) v s (by simpa using hv) (by simpa using hs)) hm) rfl (.pure _ _ _ (.int ..)))
    · cases he
  · -- max
    rename_i m k n0' r
    split at he
    · rename_i n hm
      simp only [Option.some.injEq] at he
      subst he
      cases vs with
      | nil => simp at hlen
      | cons v vs =>
        have h0 := hrel 0 v _ rfl rfl
        cases h0 with
        | pure _ _ _ h0 =>
          cases h0
          refine goes1 (s := Builtin.max_ c.argTypes o.type (.int k n0' :: vs).toArray) (by rw [hx]; rfl) (Comes1.still h (max_run (by simpa using hlen) (fun i v s hv hs => hrel (i + 1) v s (by simpa using hv) (by simpa using hs)) hm) rfl (.pure _ _ _ (.int ..)))
    · cases he
  · cases he

theorem oneOf_some {x : Option SV} {e : Eff} (h : oneOf x = some e) : ∃ v, x = some v ∧ e = { res := v } := by
  unfold oneOf one at h
  split at h
  · rename_i v; cases h; exact ⟨v, rfl, rfl⟩
  · cases h

theorem bound_rel {lo : Option Operand} {a : Act} {s : Nat → Option SV} (hgl : GlobOk E G B w) (hs : RelS ρ G B n0 w S s a) : ∀ u t, lo.map a.eval = some u → lo.map (evalO E s) = some t → RelV ρ G B n0 w S u t := by
  intro u t hu ht
  cases lo with
  | none => cases hu
  | some x =>
    simp only [Option.map_some, Option.some.injEq] at hu ht
    subst hu ht
    exact eval_rel hgl hs x

theorem exec_build {ρ : Operand → Value} {o : Oper} {t : TypeId} {ps : Array (Nat × Operand)} (ho : o.op = .build t ps) : execOp ρ o = (do pure (.value (← Instr.build t (ps.map fun p => (p.1, ρ p.2))))) := by
  cases o
  cases ho
  rfl

theorem exec_buildSlice {ρ : Operand → Value} {o : Oper} {t : TypeId} {n : Nat} {ps : Array (Nat × Operand)} (ho : o.op = .buildSlice t n ps) : execOp ρ o = (do pure (.value (← Instr.buildSlice t n (ps.map fun p => (p.1, ρ p.2))))) := by
  cases o
  cases ho
  rfl

theorem exec_nilCheck {ρ : Operand → Value} {o : Oper} {x : Operand} {v : Value} (ho : o.op = .nilCheck x) (hv : ρ x = v) (hok : (∃ p, v = .pointer (some p)) ∨ ∃ f vs, v = .func (.func f) #[] vs) : (execOp ρ o).run P w = .ok (.value v) w := by
  cases o
  cases ho
  rcases hok with ⟨p, rfl⟩ | ⟨f, vs, rfl⟩ <;> (unfold execOp; simp only [hv]; rfl)

set_option maxHeartbeats 1000000 in
theorem act_sound {cf : FuncId → List SV → Store → Option (SV × Store)} (hE : EnvOk P E) (hcf : CallsOk P E cf) (hce : CallsEnter P cf) (hgl : GlobOk E G B w) (h : SInv ρ G B n0 w S) {s : Nat → Option SV} {a : Act} (hs : RelS ρ G B n0 w S s a)
    {o : Oper} {e : Eff} (he : act P E cf n0 o (evalO E s) S = some e) : Goes P B n0 ρ G w S o a e := by
  have ev := fun x => eval_rel hgl hs x
  have hn : n0 ≤ n0 + 16 * o.dst.getD 0 := Nat.le_add_right _ _
  unfold act at he
  simp only at he
  split at he
  · rename_i x ho
    exact move_goes h hgl hs hn ((exec_of ho).trans rfl) he
  · rename_i x ho
    exact move_goes h hgl hs hn ((exec_of ho).trans rfl) he
  · -- pick
    rename_i c x y ho
    obtain ⟨v, hv, rfl⟩ := oneOf_some he
    unfold pickV at hv
    split at hv
    · rename_i m t hc
      cases hv
      have h0 := ev c
      rw [hc] at h0
      generalize hcv : a.eval c = cv at h0
      cases h0 with
      | pure _ _ _ h0 =>
        cases h0
        refine goesv h (u := if t then a.eval x else a.eval y) ?_ rfl ?_
        · unfold execOp
          simp only [ho, hcv, asBool, Sem.run_bind, Sem.run_pure, Result.andThen_ok]
        · cases t
          · exact ev y
          · exact ev x
    · cases hv
  · rename_i t ho
    exact goes1 (s := Instr.alloc t true (.tuple #[])) ((exec_of ho).trans rfl) (alloc_sound h hn he)
  · rename_i t x ho
    exact goes1 (s := Instr.box t (a.eval x)) ((exec_of ho).trans rfl) (box_sound h hn (ev x) he)
  · rename_i t ps ho
    obtain ⟨p1, p2⟩ := parts_rel (ps := ps) hgl hs
    exact goes1 (exec_build ho) (build_sound h p1 p2 he)
  · rename_i t n ps ho
    obtain ⟨p1, p2⟩ := parts_rel (ps := ps) hgl hs
    exact goes1 (exec_buildSlice ho) (buildSlice_sound h hn p1 p2 he)
  · rename_i t x ho
    obtain ⟨u, G', r1, r2, r3, r4⟩ := load_sound h (ev x) he
    exact goes1 (s := Instr.loadAt t (a.eval x)) ((exec_of ho).trans rfl) ⟨u, ρ, G', w, r1, r2, r3, r4⟩
  · rename_i t x y ho
    obtain ⟨G', w', r1, r2, r3, r4⟩ := store_sound h (ev x) (ev y) he
    exact goes0 (s := Instr.storeAt t (a.eval x) (a.eval y)) ((exec_of ho).trans rfl) ⟨ρ, G', w', r1, r2, r3, r4⟩
  · -- nilCheck
    rename_i x ho
    have h0 := ev x
    generalize hxv : a.eval x = xv at h0
    unfold nilCheckV at he
    split at he
    · rename_i k n hx
      simp only [one, Option.some.injEq] at he
      subst he
      rw [hx] at h0
      refine goesv h (exec_nilCheck ho hxv ?_) rfl h0
      cases h0
      exact .inl ⟨_, rfl⟩
    · rename_i k len i r hx
      split at he
      · rename_i hst
        simp only [Option.some.injEq] at he
        subst he
        rw [hx] at h0
        refine goesv h (exec_nilCheck ho hxv ?_) rfl h0
        obtain ⟨b, c, d, m, z, lim, xs, q1, q2, q3, q4, q5⟩ := stands_val h0 hst
        exact .inl ⟨_, q5⟩
      · cases he
    · rename_i m cs hx
      simp only [one, Option.some.injEq] at he
      subst he
      rw [hx] at h0
      refine goesv h (exec_nilCheck ho hxv ?_) rfl h0
      cases h0
      exact .inl ⟨_, rfl⟩
    · rename_i f l hx
      simp only [one, Option.some.injEq] at he
      subst he
      rw [hx] at h0
      refine goesv h (exec_nilCheck ho hxv ?_) rfl h0
      cases h0
      exact .inr ⟨_, _, rfl⟩
    · cases he
  · rename_i op t x y yt ho
    exact goes1 (s := do eqGuard op t x y (a.eval x) (a.eval y); binOp op t (a.eval x) (a.eval y)) ((exec_of ho).trans rfl) (bin_sound hE.eq h (ev x) (ev y) he)
  · rename_i op t x ho
    exact goes1 (s := Op.unary op (a.eval x)) ((exec_of ho).trans rfl) (un_sound h (ev x) he)
  · rename_i t1 t2 x ho
    exact goes1 (s := convert t1 t2 (a.eval x)) ((exec_of ho).trans rfl) (convert_sound h hn (ev x) he)
  · rename_i t x ho
    obtain ⟨v, hv, rfl⟩ := oneOf_some he
    exact goes1 (s := Instr.arrayAt t (a.eval x)) ((exec_of ho).trans rfl) (arrayAt_sound h (ev x) hv)
  · -- makeFunc
    rename_i f first caps ho
    split at he
    · rename_i hf
      simp only [one, Option.some.injEq] at he
      subst he
      refine goesv h (u := .func (.func f) #[] (caps.map a.eval)) ?_ rfl (.clo f _ _ (by simp) fun i v c hv hc => rel_map (xs := caps.toList) (E := E) hgl hs i v c (by simpa using hv) hc)
      unfold execOp
      simp only [ho]
      have : first.map a.eval = #[] := by
        apply Array.eq_empty_of_size_eq_zero
        simp [hf]
      rw [this]
      rfl
    · cases he
  · rename_i t ho
    exact goes1 (s := Instr.makeMap t none) ((exec_of ho).trans rfl) (makeMap_sound h hn he)
  · rename_i t l c ho
    exact goes1 (s := Instr.makeSlice t (a.eval l) (a.eval c)) ((exec_of ho).trans rfl) (makeSlice_sound h hn (ev l) (ev c) he)
  · rename_i t x lo hi ho
    exact goes1 (s := Instr.sliceAt t (a.eval x) (lo.map a.eval) (hi.map a.eval) none) ((exec_of ho).trans rfl)
      (sliceT_sound h hn (ev x) (bound_rel hgl hs) (bound_rel hgl hs) (by simp) (by simp) he)
  · rename_i t x f ho
    exact goes1 (s := Instr.fieldAt t (a.eval x) f) ((exec_of ho).trans rfl) (fieldAddr_sound h (ev x) he)
  · rename_i t x f ho
    obtain ⟨v, hv, rfl⟩ := oneOf_some he
    exact goes1 (s := Instr.field t (a.eval x) f) ((exec_of ho).trans rfl) (field_sound h (ev x) hv)
  · rename_i t x i ho
    exact goes1 (s := Instr.indexAt t (a.eval x) (a.eval i)) ((exec_of ho).trans rfl) (indexAddr_sound h (ev x) (ev i) he)
  · rename_i t x i ho
    obtain ⟨v, hv, rfl⟩ := oneOf_some he
    exact goes1 (s := Instr.index t (a.eval x) (a.eval i)) ((exec_of ho).trans rfl) (index_sound h (ev x) (ev i) hv)
  · rename_i t x i ok ho
    exact goes1 (s := Instr.lookup t (a.eval x) (a.eval i) ok) ((exec_of ho).trans rfl) (lookup_sound hE.eq h (ev x) (ev i) he)
  · rename_i t m k x ho
    exact goes0 (s := Instr.mapUpdate t (a.eval m) (a.eval k) (a.eval x)) ((exec_of ho).trans rfl) (mapUpdate_sound hE.eq h (ev m) (ev k) (ev x) he)
  · rename_i t m k x ho
    exact goes0 (s := Instr.mapUpdate t (a.eval m) (a.eval k) (a.eval x)) ((exec_of ho).trans rfl) (mapUpdate_sound hE.eq h (ev m) (ev k) (ev x) he)
  · rename_i t x ho
    exact goes1 (s := Instr.range t (a.eval x)) ((exec_of ho).trans rfl) (range_sound h (ev x) he)
  · rename_i it ho
    exact goes1 (s := Instr.next (a.eval it) true o.type) ((exec_of ho).trans rfl) (next_sound h (ev it) he)
  · -- extract
    rename_i t i ho
    obtain ⟨v, hv, rfl⟩ := oneOf_some he
    have h0 := ev t
    unfold extractV at hv
    split at hv
    · rename_i l ht
      rw [ht] at h0
      generalize htv : a.eval t = tv at h0
      cases h0 with
      | tuple _ vs hl hc =>
        have hlt := (List.getElem?_eq_some_iff.1 hv).1
        have hg : vs[i]? = some vs[i] := Array.getElem?_eq_getElem (by omega)
        refine goesv h (u := vs[i]) ?_ rfl (hc i _ v hg hv)
        unfold execOp
        simp only [ho, htv, Instr.extract, hg]
        rfl
    · cases hv
  · -- calls
    rename_i c ho
    split at he
    · rename_i f hcal
      split at he
      · rename_i g caps hf
        have h0 := ev f
        rw [hf] at h0
        generalize hfv : a.eval f = fv at h0
        cases h0 with
        | clo _ _ vs hl hc =>
          have hsz : (c.args.map a.eval ++ vs).size = (c.args.toList.map (evalO E s) ++ caps).length := by simp [hl]
          have hrel : ∀ (i : Nat) v s', (c.args.map a.eval ++ vs)[i]? = some v → (c.args.toList.map (evalO E s) ++ caps)[i]? = some s' → RelV ρ G B n0 w S v s' := by
            intro i v s' hv hs'
            rcases Nat.lt_or_ge i c.args.size with hi | hi
            · rw [Array.getElem?_append_left (by simpa using hi)] at hv
              rw [List.getElem?_append_left (by simpa using hi)] at hs'
              exact rel_map (xs := c.args.toList) (E := E) hgl hs i v s' (by simpa using hv) hs'
            · rw [Array.getElem?_append_right (by simpa using hi)] at hv
              rw [List.getElem?_append_right (by simpa using hi)] at hs'
              exact hc _ v s' (by simpa using hv) (by simpa using hs')
          split at he
          · rename_i hh hin
            obtain ⟨i1, i2⟩ := hE.intr g hh hin
            exact call_goes ho hcal hfv i1 (i2 B n0 _ ρ G w S _ _ e h hn he hsz hrel)
          · obtain ⟨as, S0, r, hcr⟩ := callV_enters he
            exact call_goes ho hcal hfv (hce g as S0 r hcr) (callV_sound hcf hgl h hn hsz hrel he)
      · cases he
    · rename_i b hcal
      exact builtin_goes h hgl hs ho hcal hn he
    · cases he
  · cases he

end
end Go.Proofs.YticdhmcbooabaaaDoor.V
