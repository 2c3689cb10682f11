/- V26: bytes.Clone and slices.Clone as they are called. No claim. -/
import Derived.Test.YticdhmcbooabaaaDoor25
import Derived.Lib.SliceRun
set_option linter.unusedVariables false
set_option linter.unusedSimpArgs false
namespace Go.Proofs.YticdhmcbooabaaaDoor.V
open Go

/-- A slice that is cloned: a row of its own (nothing, where there is nothing); 'by_' bytes an element. -/
def cloneW (z by_ : Nat) (args : List SV) (look : Nat → Option Ob) (nk : Nat) : Option Eff :=
  match args with
  | [x] => if isStrV x then none else match readS look z x with
    | some (m', ys, ks) => if (look nk).isNone ∧ ys.length * by_ ≤ 140737488355328 then some { res := .row nk ys.length, wr := [(nk, .row (m' || allScalar ys) z 0 ys)], rd := some (nk :: ks) } else none
    | none => none
  | _ => none

def d0 (d : Nat) (op : Op) (ty : TypeId) (pos : String) (af : Array Edge) : Oper := ⟨some d, op, ty, pos, af, none⟩

/-- The text of both. -/
def cloneCode (t bt : TypeId) (p0 p1 p2 p3 : String) (a1 a7 a2 : Array Edge) : Code :=
  .seq (.region 0 #[d0 2 (.assign (.const (.slice none 0 0))) t p0 #[]] false)
    (.seq (.seq (.region 1 #[d0 3 (.move (.tmp 0)) t p1 #[], d0 4 (.binOp .eql t (.tmp 3) (.const (.slice none 0 0)) t) bt p1 a1] false)
      (.cond (.tmp 4) (.seq (.region 2 #[d0 2 (.assign (.const (.slice none 0 0))) t p2 #[]] false) .ret) .skip))
        (.seq (.region 3 #[d0 5 (.buildSlice t 0 #[]) t p3 #[], d0 6 (.move (.tmp 0)) t p3 #[], d0 7 (.call ⟨.builtin .append, #[.tmp 5, .tmp 6], #[t, t]⟩) t p3 a7, d0 2 (.assign (.tmp 7)) t p3 a2] false) .ret))

section
variable {P : Program} {B n0 : Nat} {ρ : Emb} {G : Cs} {w : World} {S : Look}

theorem new_nilz (h : SInv ρ G B n0 w S) {k z : Nat} (hk : S k = none) (hn : n0 ≤ k) :
    SInv ρ G B n0 w (over [(k, .row true z 0 [])] S) ∧ Ext All B n0 ρ G w S ρ G w (over [(k, .row true z 0 [])] S) ∧ RelV ρ G B n0 w (over [(k, .row true z 0 [])] S) (.slice none 0 0) (.row k 0) := by
  have hnew := inv_new (ρ' := ρ) (p := none) (ob := .row true z 0 []) (w' := w) (S' := over [(k, Ob.row true z 0 [])] S) h (Grew.refl w) hk (fun j => over_one ..)
    (fun j => by
      split
      · rename_i e; subst e; exact h.dom k hk
      · rfl) (fun b c h => by cases h) (fun _ => ⟨Nat.le_refl _, fun _ => .inl rfl, fun b c d hb => by rw [h.dom k hk] at hb; cases hb⟩)
  exact ⟨hnew.1, hnew.2, .row k 0 none 0 true z 0 [] (by rw [over_one, if_pos rfl]) (.inl ⟨rfl, by rw [h.dom k hk]; exact ⟨rfl, rfl, rfl⟩⟩)⟩

theorem readS_slice (h : SInv ρ G B n0 w S) {z : Nat} {x : SV} {v : Value} {m' : Bool} {ys : List PV} {ks : List Nat} (hx : RelV ρ G B n0 w S v x) (hs : isStrV x = false) (hr : readS S z x = some (m', ys, ks)) :
    ∃ A n cap, v = .slice A n cap ∧ (A = none → ys = []) := by
  unfold readS at hr
  split at hr
  · rename_i m xs
    split at hr
    · cases hr
      cases hx with
      | pure _ _ _ hv =>
        cases hv with
        | nil A cap => exact ⟨A, 0, cap, rfl, fun _ => rfl⟩
        | sl b off n cap z xs vs => exact ⟨_, _, _, rfl, fun h => by cases h⟩
    · cases hr
  · simp [isStrV] at hs
  · cases hr
    cases hx with
    | pure _ _ _ hv => cases hv with
      | opq v h => exact ⟨_, _, _, rfl, fun _ => rfl⟩
  · rename_i k len
    cases hx with
    | row _ _ A cap m z' lim xs hk hh =>
      refine ⟨A, len, cap, rfl, fun hA => ?_⟩
      subst hA
      have ho := h.obj k _ hk
      have hxs : ys = xs ∨ ys = xs.take len := by
        rw [hk] at hr
        simp only at hr
        split at hr
        · cases hr; exact .inl rfl
        · split at hr
          · cases hr; exact .inr rfl
          · cases hr
      rcases hh with ⟨e1, e2⟩ | ⟨e1, e2, e3⟩
      · have hnone : ρ k = none := by
          cases hp : ρ k with
          | none => rfl
          | some p => rw [hp] at e2; cases e2.1
        rw [hnone] at e2
        have hnil := e2.2.2
        subst hnil
        rcases hxs with rfl | rfl <;> simp
      · have key : ∀ l, RepV (Gm G B (m && decide (n0 ≤ k))) w (.slice none len cap) (.sl l) → l = [] := fun l hl => by cases hl; rfl
        have htk := key _ e3
        rw [hk] at hr
        simp only at hr
        rw [if_neg (by omega)] at hr
        split at hr
        · cases hr; exact htk
        · cases hr
  · cases hx with
    | view k off z n b c cap ob hk hr h hcap => exact ⟨_, _, _, rfl, fun h => by cases h⟩
  · cases hr

theorem wpOp_d0 {ops : Array Oper} {i d : Nat} {op : Op} {ty : TypeId} {pos : String} {af : Array Edge} {a : Act} {w w' : World} {u : Value} {K : Act → World → Prop} {Q : Exit → Act → World → Prop} (a' : Act) (h : ops[i]? = some (d0 d op ty pos af)) (hu : (execOp a.eval (d0 d op ty pos af)).run P w = .ok (.value u) w') (ha : a.put (some d) u = a') (hK : K a' w') : wpOp P ops Q i K a w := by
  unfold wpOp
  rw [h]
  simp only [d0, Region.wanted, if_true]
  refine .inl ?_
  unfold Oper.wp
  unfold d0 at hu
  rw [hu, Oper.upon_value, ha]
  exact hK

theorem readS_keep {S' : Look} {z : Nat} {x : SV} {r : Bool × List PV × List Nat} (h : readS S z x = some r) (hk : ∀ k, S k ≠ none → S' k = S k) : readS S' z x = some r := by
  have key : ∀ k, S k ≠ none → S' k = S k := hk
  unfold readS at h ⊢
  split at h
  · exact h
  · exact h
  · exact h
  · rename_i k len
    rw [key k (by intro e; rw [e] at h; cases h)]
    exact h
  · rename_i k off z' n
    rw [key k (by intro e; rw [e] at h; cases h)]
    exact h
  · cases h

set_option maxHeartbeats 2000000 in
theorem clone_sound {g : FuncId} {fn : Func} {t bt e : TypeId} {p0 p1 p2 p3 : String} {a1 a7 a2 : Array Edge} (hf : P.funcs[g]? = some fn) (hb : fn.body = some (cloneCode t bt p0 p1 p2 p3 a1 a7 a2)) (hnt : fn.ntmps = 8) (hres : fn.results = #[.tmp 2])
    (hT : P.underlying t = some (.slice e)) (hz : 0 < P.cellsOf e) (hby : 0 < P.bytesOf e) (hze : (zeroE P e).isSome = true)
    (h : SInv ρ G B n0 w S) {nk : Nat} (hn : n0 ≤ nk) {v : Value} {x : SV} (hx : RelV ρ G B n0 w S v x) {ef : Eff} (he : cloneW (P.cellsOf e) (P.bytesOf e) [x] S nk = some ef) :
    Calls P g #[v] w (Returns B n0 ρ G w S ef) := by
  unfold cloneW at he
  simp only at he
  split at he
  · cases he
  rename_i hstr
  split at he
  · rename_i m' ys ks hr
    split at he
    · rename_i hc
      obtain ⟨hfree, hsz⟩ := hc
      have hS : S nk = none := by simpa using hfree
      cases he
      obtain ⟨A, n, cap, rfl, hA⟩ := readS_slice h hx (by simpa using hstr) hr
      have hnil : ∀ (w : World) (A : Option Addr) (n c : Nat), (binOp .eql t (.slice A n c) (.slice none 0 0)).run P w = .ok (.bool A.isNone) w := fun w A n c => Lib.run_eql_slice_nil w _ _ A n c 0 0 hT
      have hend : ∀ {a : Act} {w' : World} {u : Value} {Q : Ending → World → Prop}, a.defers = [] → a.tmps.getD 2 undef = u → Q (.returned u) w' → bodyPost P fn Q .ret a w' := by
        intro a w' u Q hd hu hQ
        refine ⟨hd, _, results_run (us := [u]) ?_, hQ⟩
        rw [hres]
        simp [resSem, hu]
      refine calls_of_wp hf hb ?_
      rw [hnt]
      show Code.wp P _ _ ⟨#[.slice A n cap, undef, undef, undef, undef, undef, undef, undef], []⟩ w
      unfold cloneCode
      refine wp_seq (wp_region ?_)
      show wpOps P _ _ [0] _ _
      rw [wpOps_cons]
      refine wpOp_d0 ⟨#[.slice A n cap, undef, .slice none 0 0, undef, undef, undef, undef, undef], []⟩ rfl (u := .slice none 0 0) (w' := w) rfl rfl ?_
      refine wp_seq (wp_seq (wp_region ?_))
      show wpOps P _ _ [0, 1] _ _
      rw [wpOps_cons]
      refine wpOp_d0 ⟨#[.slice A n cap, undef, .slice none 0 0, .slice A n cap, undef, undef, undef, undef], []⟩ rfl (u := .slice A n cap) (w' := w) rfl rfl ?_
      rw [wpOps_cons]
      refine wpOp_d0 ⟨#[.slice A n cap, undef, .slice none 0 0, .slice A n cap, .bool A.isNone, undef, undef, undef], []⟩ rfl (u := .bool A.isNone) (w' := w) ?_ rfl ?_
      · have : execOp (Act.eval ⟨#[.slice A n cap, undef, .slice none 0 0, .slice A n cap, undef, undef, undef, undef], []⟩) (d0 4 (.binOp .eql t (.tmp 3) (.const (.slice none 0 0)) t) bt p1 a1) = (do pure (.value (← binOp .eql t (.slice A n cap) (.slice none 0 0)))) := rfl
        rw [this]
        simp only [Sem.run_bind, hnil, Result.andThen_ok, Sem.run_pure]
      refine wp_cond (t := A.isNone) rfl ?_
      cases A with
      | none =>
        have hys := hA rfl
        subst hys
        refine wp_seq (wp_region ?_)
        show wpOps P _ _ [0] _ _
        rw [wpOps_cons]
        refine wpOp_d0 ⟨#[.slice none n cap, undef, .slice none 0 0, .slice none n cap, .bool true, undef, undef, undef], []⟩ rfl (u := .slice none 0 0) (w' := w) rfl rfl ?_
        refine wp_ret ?_
        obtain ⟨q1, q2, q3⟩ := new_nilz (z := P.cellsOf e) h hS hn
        refine hend (u := .slice none 0 0) rfl rfl ⟨_, ρ, G, rfl, ?_, ?_, ?_⟩
        · simpa [allScalar] using q1
        · simpa [allScalar] using q2
        · simpa [allScalar] using q3
      | some A =>
        refine wp_skip ?_
        refine wp_seq (wp_region ?_)
        show wpOps P _ _ [0, 1, 2, 3] _ _
        obtain ⟨zv, hzv⟩ := Option.isSome_iff_exists.1 hze
        have hb1 : buildSliceV P n0 nk S t 0 [] = some { res := .row nk 0, wr := [(nk, .row true (P.cellsOf e) 0 [])], rd := some [nk] } := by
          simp [buildSliceV, hT, hzv, hz, elemsV, over, V.get, hS, refsL, allScalar]
        obtain ⟨u1, ρ1, G1, w1, r1, r2, r3, r4⟩ := buildSlice_sound h hn (ps := #[]) (ss := []) rfl (fun i p s hp => by simp at hp) hb1
        rw [wpOps_cons]
        refine wpOp_d0 ⟨#[.slice (some A) n cap, undef, .slice none 0 0, .slice (some A) n cap, .bool false, u1, undef, undef], []⟩ rfl (u := u1) (w' := w1) ?_ rfl ?_
        · rw [exec_buildSlice (o := d0 5 (.buildSlice t 0 #[]) t p3 #[]) rfl]
          simp only [List.map_toArray, List.map_nil, Sem.run_bind, r1, Result.andThen_ok, Sem.run_pure]
        rw [wpOps_cons]
        refine wpOp_d0 ⟨#[.slice (some A) n cap, undef, .slice none 0 0, .slice (some A) n cap, .bool false, u1, .slice (some A) n cap, undef], []⟩ rfl (u := .slice (some A) n cap) (w' := w1) rfl rfl ?_
        rw [wpOps_cons]
        have hk1 : over [(nk, Ob.row true (P.cellsOf e) 0 [])] S nk = some (.row true (P.cellsOf e) 0 []) := by simp [over, V.get]
        have hx1 := hx.ext r3
        have hr1 : readS (over [(nk, Ob.row true (P.cellsOf e) 0 [])] S) (P.cellsOf e) x = some (m', ys, ks) := by
          refine readS_keep hr fun k hk => ?_
          simp only [over, V.get]
          rw [if_neg]
          intro hh
          exact hk (hh ▸ hS)
        have ha : appendV P nk (over [(nk, Ob.row true (P.cellsOf e) 0 [])] S) false #[t, t] (.row nk 0) x = some { res := .row nk ys.length, wr := [(nk, .row (m' || allScalar ys) (P.cellsOf e) 0 ys)], rd := some (nk :: ks) } := by
          unfold appendV
          simp [hT, isSeqD, hz, hby, hze, hr1, isNilV, hk1, hsz]
        obtain ⟨u2, ρ2, G2, w2, s1, s2, s3, s4⟩ := append_sound (args := #[t, t]) (rt := t) r2 hn r4 hx1 (fun hh => by cases hh) ha
        refine wpOp_d0 ⟨#[.slice (some A) n cap, undef, .slice none 0 0, .slice (some A) n cap, .bool false, u1, .slice (some A) n cap, u2], []⟩ rfl (u := u2) (w' := w2) ?_ rfl ?_
        · obtain ⟨consts, hxx⟩ := builtin_exec (a := ⟨#[.slice (some A) n cap, undef, .slice none 0 0, .slice (some A) n cap, .bool false, u1, .slice (some A) n cap, undef], []⟩) (o := d0 7 (.call ⟨.builtin .append, #[.tmp 5, .tmp 6], #[t, t]⟩) t p3 a7) rfl rfl
          have hm : (#[Operand.tmp 5, Operand.tmp 6] : Array Operand).map (Act.eval ⟨#[.slice (some A) n cap, undef, .slice none 0 0, .slice (some A) n cap, .bool false, u1, .slice (some A) n cap, undef], []⟩) = #[u1, .slice (some A) n cap] := by
            simp [Act.eval]
          rw [hxx]
          show Sem.run P (builtin .append #[t, t] t consts (Array.map _ #[Operand.tmp 5, Operand.tmp 6])) w1 = _
          rw [hm]
          show Sem.run P (do pure (Next.value (← Builtin.append_ #[t, t] t #[u1, Value.slice (some A) n cap]))) w1 = _
          simp only [Sem.run_bind, s1, Result.andThen_ok, Sem.run_pure]
        rw [wpOps_cons]
        refine wpOp_d0 ⟨#[.slice (some A) n cap, undef, u2, .slice (some A) n cap, .bool false, u1, .slice (some A) n cap, u2], []⟩ rfl (u := u2) (w' := w2) rfl rfl ?_
        refine wp_ret ?_
        have hov : over [(nk, Ob.row (m' || allScalar ys) (P.cellsOf e) 0 ys)] (over [(nk, Ob.row true (P.cellsOf e) 0 [])] S) = over [(nk, Ob.row (m' || allScalar ys) (P.cellsOf e) 0 ys)] S := by
          funext k
          simp only [over, V.get]
          by_cases hh : nk = k
          · rw [if_pos hh, if_pos hh]
          · rw [if_neg hh, if_neg hh]
        simp only at s2 s3 s4 r3
        rw [hov] at s2 s3 s4
        exact hend (u := u2) rfl rfl ⟨_, ρ2, G2, rfl, s2, r3.trans s3, s4⟩
    · cases he
  · cases he

theorem cloneW_local (z by_ : Nat) (args : List SV) (nk : Nat) : Local fun S => cloneW z by_ args S nk := by
  intro S S' e ks he hr hag
  dsimp only at he ⊢
  unfold cloneW at he ⊢
  split at he
  · rename_i x
    split at he
    · cases he
    · rename_i hs
      split at he
      · rename_i m' ys ks' hrd
        split at he
        · rename_i hc
          cases he
          cases hr
          try simp only
          rw [if_neg hs, readS_congr hrd fun k hk => hag k (by simp [hk])]
          try simp only
          rw [hag nk (by simp), if_pos hc]
        · cases he
      · cases he
  · cases he

theorem lk_all {α : Type} {p : Nat → α → Prop} {lk : List (Nat × α) → Nat → Option α} (hn : ∀ f, lk [] f = none) (hc : ∀ g a l f, lk ((g, a) :: l) f = match g.beq f with | true => some a | false => lk l f) :
    ∀ (l : List (Nat × α)), (∀ q ∈ l, p q.1 q.2) → ∀ f a, lk l f = some a → p f a := by
  intro l
  induction l with
  | nil => intro _ f a h; rw [hn] at h; cases h
  | cons q l ih =>
    obtain ⟨g, b⟩ := q
    intro hl f a h
    rw [hc] at h
    split at h
    · rename_i hb
      cases h
      have := Nat.eq_of_beq_eq_true hb
      subst this
      exact hl (g, b) (by simp)
    · exact ih (fun q hq => hl q (List.mem_cons_of_mem _ hq)) f a h

/-- What is asked of an intrinsic. -/
def IntrOk (P : Program) (g : FuncId) (hh : List SV → (Nat → Option Ob) → Nat → Option Eff) : Prop := Enters P g ∧ ∀ (B n0 nk : Nat) (ρ : Emb) (G : Cs) (w : World) (S : Look) (args : List SV) (vals : Array Value) (e : Eff), SInv ρ G B n0 w S → n0 ≤ nk → hh args S nk = some e →
      vals.size = args.length → (∀ (i : Nat) v s, vals[i]? = some v → args[i]? = some s → RelV ρ G B n0 w S v s) → Calls P g vals w (Returns B n0 ρ G w S e)

/-- A clone among the intrinsics. -/
theorem intr_clone {g : FuncId} {fn : Func} {t bt e : TypeId} {p0 p1 p2 p3 : String} {a1 a7 a2 : Array Edge} (hf : P.funcs[g]? = some fn) (hb : fn.body = some (cloneCode t bt p0 p1 p2 p3 a1 a7 a2)) (hnt : fn.ntmps = 8) (hres : fn.results = #[.tmp 2])
    (hT : P.underlying t = some (.slice e)) {z by_ : Nat} (hcz : P.cellsOf e = z) (hcb : P.bytesOf e = by_) (hz : 0 < z) (hby : 0 < by_) (hze : (zeroE P e).isSome = true) (hname : fn.name ≠ "runtime.NumGoroutine") :
    IntrOk P g (cloneW z by_) := by
  refine ⟨enters_of hf hb hname, ?_⟩
  intro B n0 nk ρ G w S args vals ef h hn he hl hr
  have he' := he
  unfold cloneW at he
  split at he
  · rename_i x
    have : ∃ v, vals = #[v] := by
      obtain ⟨l⟩ := vals
      match l, hl with
      | [v], _ => exact ⟨v, rfl⟩
    obtain ⟨v, rfl⟩ := this
    subst hcz hcb
    exact clone_sound hf hb hnt hres hT hz hby hze h hn (hr 0 v x rfl rfl) he'
  · cases he
end
end Go.Proofs.YticdhmcbooabaaaDoor.V
