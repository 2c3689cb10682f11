/- V8: builtins, maps, iterators. No claim. -/
import Derived.Test.YticdhmcbooabaaaDoor7
set_option linter.unusedVariables false
set_option linter.unusedSimpArgs false
namespace Go.Proofs.YticdhmcbooabaaaDoor.V
open Go

section
variable {B n0 : Nat} {ρ : Emb} {G : Cs} {w : World} {S : Look} {P : Program} {E : Env}

theorem len_sound (h : SInv ρ G B n0 w S) {args : Array TypeId} {t rt : TypeId} {v : Value} {x : SV} (ht : args[0]? = some t) (hv : RelV ρ G B n0 w S v x) {e : Eff} (he : lenV P S t x = some e) :
    Comes1 P B n0 ρ G w S (Builtin.len_ args rt #[v]) e := by
  have fin : ∀ {n : Nat} {ks : Option (List Nat)}, (Builtin.len_ args rt #[v]).run P w = .ok (goInt n) w → e = { res := .pure true (.int .i64 n), rd := ks } → Comes1 P B n0 ρ G w S (Builtin.len_ args rt #[v]) e := by
    intro n ks hr he
    subst he
    exact Comes1.still h hr rfl (.pure _ _ _ (.int ..))
  unfold lenV at he
  split at he
  · rename_i m s hu
    simp only [Option.some.injEq] at he
    cases hv with
    | pure _ _ _ hv =>
      cases hv with
      | str s =>
        refine fin (n := s.data.toList.length) ?_ he.symm
        simp [Builtin.len_, ht, run_underlying hu]
  · rename_i n el hu
    simp only [Option.some.injEq] at he
    refine fin (n := n) ?_ he.symm
    simp only [Builtin.len_, ht, List.getElem?_toArray, List.getElem?_cons_zero, Sem.run_bind, run_underlying hu, Result.andThen_ok]
    cases v <;> rfl
  · rename_i el m xs hu
    simp only [Option.some.injEq] at he
    cases hv with
    | pure _ _ _ hv =>
      cases hv with
      | nil A cap =>
        refine fin (n := 0) ?_ he.symm
        simp [Builtin.len_, ht, run_underlying hu]
      | sl b off n cap z _ vs hn =>
        subst hn
        refine fin (n := xs.length) ?_ he.symm
        simp [Builtin.len_, ht, run_underlying hu]
  · rename_i el m hu
    simp only [Option.some.injEq] at he
    cases hv with
    | pure _ _ _ hv =>
      have hv0 := isNilP_val hv rfl
      subst hv0
      refine fin (n := 0) ?_ he.symm
      simp [Builtin.len_, ht, run_underlying hu]
  · rename_i el k n hu
    simp only [Option.some.injEq] at he
    cases hv with
    | row _ _ A cap =>
      refine fin (n := n) ?_ he.symm
      simp [Builtin.len_, ht, run_underlying hu]
  · rename_i el k off z n hu
    simp only [Option.some.injEq] at he
    cases hv with
    | view =>
      refine fin (n := n) ?_ he.symm
      simp [Builtin.len_, ht, run_underlying hu]
  · rename_i el k n q hu
    simp only [Option.some.injEq] at he
    cases hv with
    | hd =>
      refine fin (n := q) ?_ he.symm
      simp [Builtin.len_, ht, run_underlying hu]
  · rename_i kt et m hu
    simp only [Option.some.injEq] at he
    cases hv with
    | pure _ _ _ hv =>
      cases hv
      refine fin (n := 0) ?_ he.symm
      simp [Builtin.len_, ht, run_underlying hu]
  · rename_i kt et k hu
    cases hv with
    | map _ b c ob hk hr hb =>
      rw [hk] at he
      have hO := h.obj k _ hk
      cases ob with
      | map m es =>
        simp only [Option.some.injEq] at he
        obtain ⟨b', c', en, clock, o1, o2, o3, o4⟩ := hO
        rw [hb] at o1
        cases o1
        refine fin (n := es.length) ?_ he.symm
        simp only [Builtin.len_, ht, List.getElem?_toArray, List.getElem?_cons_zero, Sem.run_bind, run_underlying hu, Result.andThen_ok]
        simp [getObj, Sem.run, o2, o3]
      | maps es =>
        simp only [Option.some.injEq] at he
        obtain ⟨b', c', en, clock, o1, o2, o3, o4⟩ := hO
        rw [hb] at o1
        cases o1
        refine fin (n := es.length) ?_ he.symm
        simp only [Builtin.len_, ht, List.getElem?_toArray, List.getElem?_cons_zero, Sem.run_bind, run_underlying hu, Result.andThen_ok]
        simp [getObj, Sem.run, o2, o3]
      | _ => simp at he
  · cases he

theorem min_fold {k : IntKind} : ∀ {l : List SV} {vs : List Value} {a n : Int}, vs.length = l.length → (∀ (i : Nat) v s, vs[i]? = some v → l[i]? = some s → RelV ρ G B n0 w S v s) → minV a l = some n →
    (vs.foldlM Builtin.min2 (.int k a)).run P w = .ok (.int k n) w := by
  intro l
  induction l with
  | nil =>
    intro vs a n hl hv he
    simp only [minV, Option.some.injEq] at he
    subst he
    cases vs <;> simp at hl
    rfl
  | cons s r ih =>
    intro vs a n hl hv he
    cases vs with
    | nil => simp at hl
    | cons v vs =>
      have h0 := hv 0 v s rfl rfl
      cases s with
      | pure m x =>
        cases x with
        | int k' b =>
          simp only [minV] at he
          cases h0 with
          | pure _ _ _ h0 =>
            cases h0
            simp only [List.foldlM_cons, Sem.run_bind, Builtin.min2, Sem.run_pure, Result.andThen_ok]
            exact ih (by simpa using hl) (fun i v s hi hs => hv (i + 1) v s (by simpa using hi) (by simpa using hs)) he
        | _ => simp [minV] at he
      | _ => simp [minV] at he

theorem max_fold {k : IntKind} : ∀ {l : List SV} {vs : List Value} {a n : Int}, vs.length = l.length → (∀ (i : Nat) v s, vs[i]? = some v → l[i]? = some s → RelV ρ G B n0 w S v s) → maxV a l = some n →
    (vs.foldlM Builtin.max2 (.int k a)).run P w = .ok (.int k n) w := by
  intro l
  induction l with
  | nil =>
    intro vs a n hl hv he
    simp only [maxV, Option.some.injEq] at he
    subst he
    cases vs <;> simp at hl
    rfl
  | cons s r ih =>
    intro vs a n hl hv he
    cases vs with
    | nil => simp at hl
    | cons v vs =>
      have h0 := hv 0 v s rfl rfl
      cases s with
      | pure m x =>
        cases x with
        | int k' b =>
          simp only [maxV] at he
          cases h0 with
          | pure _ _ _ h0 =>
            cases h0
            simp only [List.foldlM_cons, Sem.run_bind, Builtin.max2, Sem.run_pure, Result.andThen_ok]
            exact ih (by simpa using hl) (fun i v s hi hs => hv (i + 1) v s (by simpa using hi) (by simpa using hs)) he
        | _ => simp [maxV] at he
      | _ => simp [maxV] at he

theorem dOk {d : TypeDesc} (h : isSeqD d = true) : (∃ e', d = .slice e') ∨ d = .string := by
  cases d <;> simp [isSeqD] at h
  · exact .inr rfl
  · exact .inl ⟨_, rfl⟩

theorem allCell_get {xs : List PV} (h : allCell xs = true) (j : Nat) (x : PV) (hx : xs[j]? = some x) : x.isAgg = false := by
  induction xs generalizing j with
  | nil => simp at hx
  | cons y r ih =>
    simp only [allCell, Bool.and_eq_true, Bool.not_eq_true'] at h
    cases j with
    | zero => simp at hx; subst hx; exact h.1
    | succ j => exact ih h.2 j (by simpa using hx)

theorem append_sound (h : SInv ρ G B n0 w S) {nk : Nat} (hn : n0 ≤ nk) {args : Array TypeId} {rt : TypeId} {nilBase : Bool} {u v : Value} {s x : SV} (hs : RelV ρ G B n0 w S u s) (hx : RelV ρ G B n0 w S v x) (hnil : nilBase = true → u = .slice none 0 0) {e : Eff}
    (he : appendV P nk S nilBase args s x = some e) : Comes1 P B n0 ρ G w S (Builtin.append_ args rt #[u, v]) e := by
  unfold appendV at he
  split at he
  · rename_i st xt h0 h1
    split at he
    · rename_i el d hu hxt
      split at he
      · rename_i hc
        obtain ⟨hd, hz, hb, hzero⟩ := hc
        obtain ⟨y0, hy⟩ := Option.isSome_iff_exists.1 hzero
        split at he
        · rename_i m' ys ks hr
          split at he
          · rename_i hnb
            split at he
            · rename_i hc
              simp only [Option.some.injEq] at he
              subst he
              have hk : S nk = none := by simpa using hc.1
              have hu0 : u = .slice none 0 0 := by
                simp only [Bool.or_eq_true] at hnb
                rcases hnb with hnb | hnb
                · exact hnil hnb
                · cases hs <;> simp [isNilV] at hnb
                  rename_i hs
                  exact isNilP_val hs hnb
              subst hu0
              have hnew := inv_new (ρ' := ρ) (p := none) (ob := .row true 0 0 []) (w' := w) (S' := over [(nk, Ob.row true 0 0 [])] S) h (Grew.refl w) hk (fun j => over_one ..)
                (fun j => by
                  split
                  · rename_i e; subst e; exact h.dom nk hk
                  · rfl) (fun b c h => by cases h) (fun _ => ⟨Nat.le_refl _, fun _ => .inl rfl, fun b c f hb => by rw [h.dom nk hk] at hb; cases hb⟩)
              have hr' : readS (over [(nk, Ob.row true 0 0 [])] S) (P.cellsOf el) x = some (m', ys, ks) := by
                have hkeep : ∀ k ob, S k = some ob → over [(nk, Ob.row true 0 0 [])] S k = some ob := fun k ob hs => by
                  rw [over_one, if_neg (by rintro rfl; rw [hk] at hs; cases hs)]; exact hs
                unfold readS at hr ⊢
                split at hr
                · exact hr
                · exact hr
                · exact hr
                · split at hr
                  · rename_i hs; rw [hkeep _ _ hs]; exact hr
                  · cases hr
                · split at hr
                  · rename_i hs; rw [hkeep _ _ hs]; exact hr
                  · rename_i hs; rw [hkeep _ _ hs]; exact hr
                  · cases hr
                · cases hr
              obtain ⟨u', ρ', G', w', r1, r2, r3, r4⟩ := append_row_sound (rt := rt) (S' := over [(nk, Ob.row (m' || allScalar ys) (P.cellsOf el) 0 ys)] S) (k := nk) (A := none) (cap := 0) hnew.1 (by rw [over_one, if_pos rfl]) (by rw [h.dom nk hk]; exact ⟨rfl, rfl, rfl⟩) (hx.ext hnew.2) h0 h1 hu hxt (dOk hd) hz hb hy (.inr rfl) hr' (by simpa using hc.2)
                (fun j => by rw [over_one, over_one]; split <;> simp)
              exact ⟨u', ρ', G', w', by simpa using r1, r2, hnew.2.trans r3, by simpa using r4⟩
            · cases he
          · rename_i hnb
            split at he
            · rename_i k len
              split at he
              · rename_i m z lim xs hk
                split at he
                · rename_i hc
                  obtain ⟨hlen, hzz, hroom⟩ := hc
                  simp only [Option.some.injEq] at he
                  subst he
                  cases hs with
                  | row _ _ A cap m1 z1 lim1 xs1 hk1 hrel =>
                    rw [hk] at hk1
                    cases hk1
                    subst hlen
                    rcases hrel with ⟨_, ht⟩ | ⟨e1, e2, _⟩
                    · obtain ⟨u', ρ', G', w', r1, r2, r3, r4⟩ := append_row_sound (rt := rt) (S' := over [(k, Ob.row (m && (m' || allScalar ys)) (P.cellsOf el) xs.length (xs ++ ys))] S) h hk ht hx h0 h1 hu hxt (dOk hd) hz hb hy hzz hr hroom (fun j => over_one ..)
                      exact ⟨u', ρ', G', w', r1, r2, r3, r4⟩
                    · omega
                · cases he
              · cases he
            · cases he
        · cases he
      · cases he
    · cases he
  · cases he

theorem copy_sound (h : SInv ρ G B n0 w S) {args : Array TypeId} {rt : TypeId} {u v : Value} {d x : SV} (hd : RelV ρ G B n0 w S u d) (hx : RelV ρ G B n0 w S v x) {e : Eff} (he : copyV P S args d x = some e) :
    Comes1 P B n0 ρ G w S (Builtin.copy_ args rt #[u, v]) e := by
  unfold copyV at he
  split at he
  · rename_i t ht
    split at he
    · rename_i el hu
      split at he
      · rename_i hz
        split at he
        · rename_i m' ys ks hr
          split at he
          · rename_i k off z len
            split at he
            · rename_i cs hk
              split at he
              · rename_i hc
                obtain ⟨rfl, hz1, hle, hac⟩ := hc
                simp only [Option.some.injEq] at he
                subst he
                rw [hz1] at hr
                have hrd := readS_sound (P := P) h Nat.one_pos hx hr
                cases hd with
                | view _ _ _ _ b c cap ob hk1 hro hb hcap =>
                  obtain ⟨b', c', cells, T, fr, o1, o2, o3, o4, o5⟩ := h.obj k _ hk
                  rw [hb] at o1
                  cases o1
                  obtain ⟨cx, us, q1, q2, q3⟩ := hrd.pref (min ys.length len) (Nat.min_le_left _ _)
                  have htl : (ys.take (min ys.length len)).length = min ys.length len := by rw [List.length_take]; omega
                  have q2' : cx.size = (ys.take (min ys.length len)).length * 1 := by rw [htl]; exact q2
                  obtain ⟨w', s1, s2, s3, ⟨cells', s4, s5⟩, s6, s7, s8⟩ := run_storeCellsV (P := P) cx.toList 0 w b off cells T fr o2 o3 (by simp; omega) (q3.plain Nat.one_pos q2')
                  have hsz : cells'.size = cells.size := by
                    have := congrArg List.length s5
                    simpa [putL_length] using this
                  have hml : ((ys.take (min ys.length len)).map (SV.pure m')).length = min ys.length len := by rw [List.length_map, htl]
                  have hset := inv_set (G' := G) (w' := w') (S' := over [(k, Ob.box (putL cs off ((ys.take (min ys.length len)).map (.pure m'))))] S) (ob' := .box (putL cs off ((ys.take (min ys.length len)).map (.pure m')))) h hk hb (fun j => over_one ..) s2 s3 s6 s7 s8
                    (fun b' o hg => .inl hg) (fun b' o hg => hg) (fun o hg => (h.gobj k b c _ o hb hk hg).elim) (fun o v hg _ => (h.gobj k b c _ o hb hk hg).elim) ⟨rfl, rfl⟩
                    (fun hxt => ⟨b, c, cells', T, fr, hb, s4, by rw [hsz]; exact o3, by rw [hsz, putL_length]; exact o4, fun i v s hi hs => by
                      have hi' : cells'.toList[i]? = some v := by simpa using hi
                      rw [s5, Nat.add_zero, putL_get _ _ _ _ (by simp; omega)] at hi'
                      rw [putL_get _ _ _ _ (by omega), hml] at hs
                      rw [show cx.toList.length = min ys.length len by simp; omega] at hi'
                      split at hi'
                      · rename_i hin
                        rw [if_pos hin, List.getElem?_map] at hs
                        obtain ⟨y, hy, rfl⟩ := Option.map_eq_some_iff.1 hs
                        obtain ⟨y1, y2, y3⟩ := q3 (i - off) y hy
                        have hac' : y.isAgg = false := by
                          rw [List.getElem?_take] at hy
                          split at hy
                          · exact allCell_get hac _ y hy
                          · cases hy
                        have hcell : us (i - off) = v := by
                          have hup := y2.plain hac'
                          have h2 := y3 0 (us (i - off)) (by rw [hup.cells]; rfl)
                          simp only [Nat.mul_one, Nat.add_zero] at h2
                          have h3 : cx[i - off]? = some v := by simpa using hi'
                          rw [h3] at h2
                          cases h2
                          rfl
                        rw [hcell] at y2
                        have hpl : Plain v := by
                          have h3 : cx[i - off]? = some v := by simpa using hi'
                          exact q3.plain Nat.one_pos q2' v (Array.mem_toList_iff.2 (Array.mem_of_getElem? h3))
                        exact ⟨(RelV.pure m' y v y2).ext hxt, hpl⟩
                      · rename_i hin
                        rw [if_neg hin] at hs
                        have := o5 i v s (by simpa using hi') hs
                        exact ⟨this.1.ext hxt, this.2⟩⟩)
                  refine ⟨_, ρ, G, w', ?_, hset.1, hset.2, .pure _ _ _ (.int ..)⟩
                  unfold Builtin.copy_
                  simp only [ht, List.getElem?_toArray, List.getElem?_cons_zero, List.getElem?_cons_succ, Sem.run_bind, run_underlying hu, Result.andThen_ok, hrd.len, run_sizeV hz]
                  rw [hz1]
                  rw [show Nat.min ys.length len = min ys.length len from rfl, q1]
                  simp only [Result.andThen_ok]
                  rw [s1]
                  rfl
              · cases he
            · cases he
          · cases he
        · cases he
      · cases he
    · cases he
  · cases he

/-! ### maps -/
/-- Does a key's value equal an entry's? -/
def keyEq (a b : Value) : Bool :=
  match a, b with
  | .agg x, .agg y => eqVs x.toList y.toList
  | a, b => eqVs [a] [b]

theorem checkKey_plain (n : Nat) {kt : TypeId} {d : TypeDesc} (hu : P.underlying kt = some d) (hd : (∃ k, d = .int k) ∨ d = .string ∨ d = .bool) (em : Bool) (v : Value) (w : World) : (Instr.checkKey em (n + 1) kt v).run P w = .ok () w := by
  rcases hd with ⟨k, rfl⟩ | rfl | rfl <;> simp only [Instr.checkKey, Sem.run_bind, run_underlying hu, Result.andThen_ok] <;> rfl

def PlainD (d : TypeDesc) : Prop := (∃ k, d = .int k) ∨ d = .string ∨ d = .bool

theorem keyT_run (hE : EnvEq P E) {kt : TypeId} {x : PV} {G : Cs} {v : Value} (hk : keyT P E kt x = true) (hv : RepV G w v x) :
    (∀ em w, (Instr.checkKey em 10000 kt v).run P w = .ok () w) ∧
    ∀ {y : PV} {u : Value} {r : Bool}, RepV G w u y → x.isAgg = y.isAgg → eqCells x.cells y.cells = some r →
      keyEq v u = r ∧ ∀ (rest : List MapEntry) (i : Nat) (e : MapEntry) (w2 : World), e.key = u →
        ∀ d, P.underlying kt = some d → (PlainD d → Instr.findNow d v (e :: rest) i = (if r then some (some (i, e.val)) else Instr.findNow d v rest (i + 1))) ∧
         (¬ PlainD d → Instr.findNow d v (e :: rest) i = none ∧ (Op.equal kt v u).run P w2 = .ok r w2) := by
  unfold keyT at hk
  split at hk
  · rename_i k k' n hu
    cases hv
    refine ⟨fun em w => checkKey_plain 9999 hu (.inl ⟨k, rfl⟩) em _ w, ?_⟩
    intro y u r hy ha he
    cases y with
    | agg _ => simp [PV.isAgg] at ha
    | int k2 m =>
      cases hy
      simp only [PV.cells, eqCells] at he
      split at he
      · rename_i hkk
        subst hkk
        simp only [Bool.and_true, Option.some.injEq] at he
        subst he
        refine ⟨by simp only [keyEq, eqVs, Bool.and_true]; rw [Bool.eq_iff_iff]; simp, fun rest i e w2 hek d hd => ?_⟩
        rw [hu] at hd
        cases hd
        refine ⟨fun _ => ?_, fun hp => absurd (.inl ⟨k, rfl⟩) hp⟩
        simp only [Instr.findNow, hek, Instr.sameNow, if_true]
        by_cases hnm : n = m
        · subst hnm; simp
        · have : (n == m) = false := by simpa using hnm
          simp [this, hnm]
      · cases he
    | _ => simp [PV.cells, eqCells] at he
  · rename_i s hu
    cases hv with
    | str s =>
      refine ⟨fun em w => checkKey_plain 9999 hu (.inr (.inl rfl)) em _ w, ?_⟩
      intro y u r hy ha he
      cases y with
      | agg _ => simp [PV.isAgg] at ha
      | str m =>
        cases hy with
        | str m =>
          simp only [PV.cells, eqCells, Bool.and_true, Option.some.injEq] at he
          subst he
          have hbe : (s == m) = decide (s.data.toList = m.data.toList) := by
            rw [beq_toListBytes, ByteArray.toList_eq, ByteArray.toList_eq, Bool.eq_iff_iff]; simp
          refine ⟨by simp only [keyEq, eqVs, Bool.and_true]; rw [← hbe, beq_toListBytes], fun rest i e w2 hek d hd => ?_⟩
          rw [hu] at hd
          cases hd
          refine ⟨fun _ => ?_, fun hp => absurd (.inr (.inl rfl)) hp⟩
          simp only [Instr.findNow, hek, Instr.sameNow]
          rw [hbe]
          by_cases hnm : s.data.toList = m.data.toList <;> simp [hnm]
      | _ => simp [PV.cells, eqCells] at he
  · rename_i b hu
    cases hv
    refine ⟨fun em w => checkKey_plain 9999 hu (.inr (.inr rfl)) em _ w, ?_⟩
    intro y u r hy ha he
    cases y with
    | agg _ => simp [PV.isAgg] at ha
    | bool m =>
      cases hy
      simp only [PV.cells, eqCells, Bool.and_true, Option.some.injEq] at he
      subst he
      refine ⟨by simp only [keyEq, eqVs, Bool.and_true]; rw [Bool.eq_iff_iff]; simp, fun rest i e w2 hek d hd => ?_⟩
      rw [hu] at hd
      cases hd
      refine ⟨fun _ => ?_, fun hp => absurd (.inr (.inr rfl)) hp⟩
      simp only [Instr.findNow, hek, Instr.sameNow]
      by_cases hnm : b = m
      · subst hnm; simp
      · have : (b == m) = false := by simpa using hnm
        simp [this, hnm]
    | _ => simp [PV.cells, eqCells] at he
  · rename_i fs a hu
    split at hk
    · rename_i ks hks
      have hok := hE.eq kt ks hks
      obtain ⟨xs, rfl, lx, rx⟩ := agg_cells hv
      refine ⟨fun em w => hok.key w em xs (hasKc_vals hk lx rx), ?_⟩
      intro y u r hy ha he
      cases y with
      | agg b =>
        obtain ⟨ys, rfl, ly, ry⟩ := agg_cells hy
        simp only [PV.cells] at he
        have hev := eqCells_vals (G := G) he lx ly rx ry
        have hkb : HasKs ks ys.toList := by
          have h1 := hasKc_vals hk lx rx
          clear hok hks
          generalize xs.toList = xl at h1 lx rx hev
          generalize ys.toList = yl at ly ry hev ⊢
          clear hev hv hy
          induction ks generalizing a b xl yl r with
          | nil =>
            cases xl with
            | nil =>
              have : a = [] := List.eq_nil_of_length_eq_zero (by simpa using lx.symm)
              subst this
              cases b <;> simp [eqCells] at he
              have : yl = [] := List.eq_nil_of_length_eq_zero (by simpa using ly)
              subst this
              trivial
            | cons _ _ => simp [HasKs] at h1
          | cons kc kr ih =>
            cases xl with
            | nil => cases kc <;> simp [HasKs] at h1
            | cons xv xl =>
              cases a with
              | nil => simp at lx
              | cons ac al =>
                cases b with
                | nil => cases ac <;> simp [eqCells] at he
                | cons bc bl =>
                  cases yl with
                  | nil => simp at ly
                  | cons yv yl =>
                    have x0 := rx 0 xv ac rfl rfl
                    have y0 := ry 0 yv bc rfl rfl
                    have hrx := fun (i : Nat) v c hv hc => rx (i + 1) v c (by simpa using hv) (by simpa using hc)
                    have hry := fun (i : Nat) v c hv hc => ry (i + 1) v c (by simpa using hv) (by simpa using hc)
                    cases ac with
                    | int k1 n1 =>
                      cases bc with
                      | int k2 n2 =>
                        cases x0
                        cases y0
                        simp only [eqCells] at he
                        split at he
                        · rename_i hkk
                          subst hkk
                          split at he
                          · rename_i t ht
                            cases kc with
                            | int k =>
                              simp only [HasKs] at h1 ⊢
                              simp only [hasKc, Bool.and_eq_true] at hk
                              exact ⟨h1.1, ih al hk.2 bl (by simp [PV.isAgg]) ht xl h1.2 (by simpa using lx) hrx yl (by simpa using ly) hry⟩
                            | _ => simp [HasKs] at h1
                          · cases he
                        · cases he
                      | _ => simp [eqCells] at he
                    | bool n1 =>
                      cases bc with
                      | bool n2 =>
                        cases x0
                        cases y0
                        simp only [eqCells] at he
                        split at he
                        · rename_i t ht
                          cases kc with
                          | bool =>
                            simp only [HasKs] at h1 ⊢
                            simp only [hasKc] at hk
                            exact ih al hk bl (by simp [PV.isAgg]) ht xl h1 (by simpa using lx) hrx yl (by simpa using ly) hry
                          | _ => simp [HasKs] at h1
                        · cases he
                      | _ => simp [eqCells] at he
                    | str n1 =>
                      cases bc with
                      | str n2 =>
                        cases x0
                        cases y0
                        simp only [eqCells] at he
                        split at he
                        · rename_i t ht
                          cases kc with
                          | str =>
                            simp only [HasKs] at h1 ⊢
                            simp only [hasKc] at hk
                            exact ih al hk bl (by simp [PV.isAgg]) ht xl h1 (by simpa using lx) hrx yl (by simpa using ly) hry
                          | _ => simp [HasKs] at h1
                        · cases he
                      | _ => simp [eqCells] at he
                    | _ => simp [eqCells] at he
        refine ⟨hev, fun rest i e w2 hek d hd => ?_⟩
        rw [hu] at hd
        cases hd
        refine ⟨fun hp => ?_, fun _ => ⟨by simp only [Instr.findNow, Instr.sameNow], ?_⟩⟩
        · rcases hp with ⟨k, hp⟩ | hp | hp <;> cases hp
        · have := hok.eq w2 xs ys (hasKc_vals hk lx rx) hkb
          rw [hev] at this
          exact this
      | _ => simp [PV.isAgg] at ha
    · cases hk
  · cases hk

/-- Where a key stands. -/
def whereK (key : PV) {α : Type} : List (PV × α) → Option Nat
  | [] => none
  | (k, _) :: r => match eqCells key.cells k.cells with
    | some true => some 0
    | _ => (whereK key r).map (· + 1)

theorem find_sound (hE : EnvEq P E) {kt : TypeId} {key : PV} {G : Cs} {v : Value} (hk : keyT P E kt key = true) (hv : RepV G w v key) {d : TypeDesc} (hu : P.underlying kt = some d) {α : Type} {es : List (PV × α)} :
    ∀ {en : List MapEntry} {r : Option α}, en.length = es.length → (∀ (i : Nat) e p, en[i]? = some e → es[i]? = some p → RepV G w e.key p.1) → mapFind key es = some r → ∀ (i : Nat),
      ∃ q, (PlainD d → Instr.findNow d v en i = some q) ∧ (¬ PlainD d → (en ≠ [] → Instr.findNow d v en i = none) ∧ ∀ w2, (Instr.findAsking kt v en i).run P w2 = .ok q w2) ∧
        match r with
        | none => q = none ∧ whereK key es = none
        | some a => ∃ j e k', q = some (i + j, e.val) ∧ en[j]? = some e ∧ es[j]? = some (k', a) ∧ whereK key es = some j ∧ keyEq v e.key = true := by
  induction es with
  | nil =>
    intro en r hl hr hf i
    simp only [mapFind, Option.some.injEq] at hf
    subst hf
    have : en = [] := List.eq_nil_of_length_eq_zero (by simpa using hl)
    subst this
    exact ⟨none, fun _ => rfl, fun _ => ⟨fun h => absurd rfl h, fun _ => rfl⟩, rfl, rfl⟩
  | cons p es ih =>
    intro en r hl hr hf i
    cases en with
    | nil => simp at hl
    | cons e en =>
      obtain ⟨k, a⟩ := p
      simp only [mapFind] at hf
      split at hf
      · rename_i hag
        have h0 := hr 0 e (k, a) rfl rfl
        have hrest := fun (i : Nat) e p he hp => hr (i + 1) e p (by simpa using he) (by simpa using hp)
        split at hf
        · rename_i heq
          simp only [Option.some.injEq] at hf
          subst hf
          obtain ⟨q1, q2⟩ := (keyT_run (w := w) hE hk hv).2 h0 hag heq
          refine ⟨some (i, e.val), fun hp => ?_, fun hp => ⟨fun _ => ((q2 en i e w rfl d hu).2 hp).1, fun w2 => ?_⟩, 0, e, k, rfl, rfl, rfl, by simp only [whereK, heq], q1⟩
          · rw [(q2 en i e w rfl d hu).1 hp]; rfl
          · simp only [Instr.findAsking, Sem.run_bind, ((q2 en i e w2 rfl d hu).2 hp).2, Result.andThen_ok, if_true, Sem.run_pure]
        · rename_i heq
          obtain ⟨q1, q2⟩ := (keyT_run (w := w) hE hk hv).2 h0 hag heq
          obtain ⟨q, c1, c2, c3⟩ := ih (en := en) (by simpa using hl) hrest hf (i + 1)
          refine ⟨q, fun hp => ?_, fun hp => ⟨fun _ => ((q2 en i e w rfl d hu).2 hp).1, fun w2 => ?_⟩, ?_⟩
          · rw [(q2 en i e w rfl d hu).1 hp]; simpa using c1 hp
          · simp only [Instr.findAsking, Sem.run_bind, ((q2 en i e w2 rfl d hu).2 hp).2, Result.andThen_ok, Bool.false_eq_true, if_false]
            exact (c2 hp).2 w2
          · cases r with
            | none => exact ⟨c3.1, by simp only [whereK, heq, c3.2]; rfl⟩
            | some a' =>
              obtain ⟨j, e', k', d1, d2, d3, d4, d5⟩ := c3
              exact ⟨j + 1, e', k', by rw [d1]; congr 2; omega, by simpa using d2, by simpa using d3, by simp only [whereK, heq, d4]; rfl, d5⟩
        · cases hf
      · cases hf

theorem findKey_sound (hE : EnvEq P E) {kt : TypeId} {key : PV} {G : Cs} {v : Value} (hk : keyT P E kt key = true) (hv : RepV G w v key) {α : Type} {es : List (PV × α)} {en : List MapEntry} {r : Option α} (hl : en.length = es.length)
    (hr : ∀ (i : Nat) e p, en[i]? = some e → es[i]? = some p → RepV G w e.key p.1) (hf : mapFind key es = some r) (w2 : World) :
    ∃ q, (Instr.findKey kt v en).run P w2 = .ok q w2 ∧
      match r with
      | none => q = none ∧ whereK key es = none
      | some a => ∃ j e k', q = some (j, e.val) ∧ en[j]? = some e ∧ es[j]? = some (k', a) ∧ whereK key es = some j ∧ keyEq v e.key = true := by
  obtain ⟨d, hu⟩ : ∃ d, P.underlying kt = some d := by
    unfold keyT at hk
    cases hd : P.underlying kt with
    | none => rw [hd] at hk; simp at hk
    | some d => exact ⟨d, rfl⟩
  obtain ⟨q, c1, c2, c3⟩ := find_sound hE hk hv hu hl hr hf 0
  refine ⟨q, ?_, by cases r <;> simpa using c3⟩
  unfold Instr.findKey
  simp only [Sem.run_bind, run_underlying hu, Result.andThen_ok]
  by_cases hp : PlainD d
  · rw [c1 hp]
    rfl
  · cases en with
    | nil =>
      have := (c2 hp).2 w2
      simp only [Instr.findAsking, Sem.run_pure] at this
      cases this
      rfl
    | cons e en =>
      rw [(c2 hp).1 (by simp)]
      exact (c2 hp).2 w2

theorem clear_sound (h : SInv ρ G B n0 w S) {args : Array TypeId} {rt : TypeId} {v : Value} {x : SV} (hx : RelV ρ G B n0 w S v x) {e : Eff} (he : clearV P S args x = some e) :
    Comes1 P B n0 ρ G w S (Builtin.clear_ args rt #[v]) e := by
  unfold clearV at he
  split at he
  · rename_i t h0
    split at he
    · rename_i el hu
      split at he
      · rename_i k len i
        split at he
        · rename_i m z lim xs hk
          split at he
          · rename_i y hy
            split at he
            · rename_i hc
              obtain ⟨c1, c2, c3, c4, c5⟩ := hc
              cases he
              subst c4
              cases hx with
              | tl _ _ _ _ m1 z1 lim1 xs1 hk1 hi hle hv =>
                rw [hk] at hk1
                cases hk1
                obtain ⟨b, cap, f, hb, rfl⟩ := hv c1.symm
                obtain ⟨o1, o2, o3⟩ := h.obj k _ hk
                obtain ⟨o4, o5, cells, T, fr, vs, o6, o7, o8, o9, o10⟩ := o3 b cap f hb
                obtain ⟨zv, zz, z1, z2, z3, z4, z5, z6⟩ := zeroE_sound hy w
                obtain ⟨zc1, zc2⟩ := zero_cells (n := len - i) zv.cells z2 c5
                have hzc : Builtin.zeroCells zv.cells (len - i) = (Array.range ((len - i) * P.cellsOf el)).map (zv.cells[· % zv.cells.size]!) := by
                  unfold Builtin.zeroCells
                  rw [z2]
                have hlen : i * P.cellsOf el + (len - i) * P.cellsOf el = len * P.cellsOf el := by rw [← Nat.add_mul]; congr 1; omega
                have hlc := Nat.mul_le_mul_right (P.cellsOf el) (show len ≤ cap by omega)
                have hpl : ∀ v ∈ ((Array.range ((len - i) * P.cellsOf el)).map (zv.cells[· % zv.cells.size]!)).toList, Plain v := fun v hv => by
                  have hv' : v ∈ (Array.range ((len - i) * P.cellsOf el)).map (zv.cells[· % zv.cells.size]!) := by simpa using hv
                  obtain ⟨j, _, rfl⟩ := Array.mem_map.1 hv'
                  have hlt : j % zv.cells.size < zv.cells.size := Nat.mod_lt _ (by omega)
                  rw [getElem!_pos zv.cells _ hlt]
                  have hz6 : zz.cells[j % zv.cells.size]? = some (zv.cells[j % zv.cells.size]) := by rw [z6]; exact Array.getElem?_eq_getElem hlt
                  obtain ⟨q1, q2⟩ := (z5 (fun _ _ => True) w).cell (j % zv.cells.size) _ (y.cells[j % zv.cells.size]'(by omega)) hz6 (List.getElem?_eq_getElem _)
                  exact q1.plain q2
                generalize hzs : (Array.range ((len - i) * P.cellsOf el)).map (zv.cells[· % zv.cells.size]!) = zs at *
                obtain ⟨w', s1, s2, s3, ⟨cells', s4, s5⟩, s6, s7, s8⟩ := run_storeCellsV (P := P) zs.toList 0 w b (f + i * P.cellsOf el) cells T fr o6 o7 (by simp; omega) hpl
                have hcsz : cells'.size = cells.size := by
                  have := congrArg List.length s5
                  simpa [putL_length] using this
                have hget : ∀ q, cells'[q]? = if f + i * P.cellsOf el ≤ q ∧ q < f + i * P.cellsOf el + (len - i) * P.cellsOf el then zs[q - (f + i * P.cellsOf el)]? else cells[q]? := fun q => by
                  have h0 : cells'.toList[q]? = (putL cells.toList (f + i * P.cellsOf el + 0) zs.toList)[q]? := by rw [s5]
                  rw [Nat.add_zero, putL_get _ _ _ _ (by simp; omega)] at h0
                  rw [show zs.toList.length = (len - i) * P.cellsOf el by simpa using zc1] at h0
                  simpa using h0
                have hlim : lim * P.cellsOf el ≤ i * P.cellsOf el := Nat.mul_le_mul_right _ c2
                have hset := inv_set (G' := G) (w' := w') (S' := over [(k, Ob.row m (P.cellsOf el) lim (xs.take i ++ List.replicate (len - i) y))] S) (ob' := .row m (P.cellsOf el) lim (xs.take i ++ List.replicate (len - i) y)) h hk hb
                  (fun j => over_one ..) s2 s3 s6 s7 s8 (fun _ _ hg => .inl hg) (fun _ _ hg => hg) (fun o hg => by
                    have := h.gobj k b (cap, f) _ o hb hk hg
                    simpa only [prot] using this)
                  (fun o v hg hv => by
                    have := h.gobj k b (cap, f) _ o hb hk hg
                    simp only [prot] at this
                    rw [cell_of s4, hget, if_neg (by omega)]
                    rw [cell_of o6] at hv
                    exact hv)
                  ⟨id, fun _ => rfl, Nat.le_refl _, by rw [List.take_append_of_le_length (by simp; omega), List.take_take, Nat.min_eq_left c2], .inl ⟨by simp; omega, rfl⟩⟩
                  (fun hxt => ⟨by simp; omega, fun hn => absurd (hb.symm.trans hn) (by simp), fun b' c' f' hb' => by
                    cases hb.symm.trans hb'
                    refine ⟨o4, by simp; omega, cells', T, fr, fun j => if j < i then vs j else zz, s4, by rw [hcsz]; exact o7, by rw [hcsz]; exact o8, o9, fun j x hj => ?_⟩
                    by_cases hlt : j < i
                    · rw [List.getElem?_append_left (by simp; omega), List.getElem?_take, if_pos hlt] at hj
                      obtain ⟨q1, q2, q3⟩ := o10 j x hj
                      simp only [hlt, if_true]
                      refine ⟨q1, q2.mono (hxt.gm _), fun r v hv => ?_⟩
                      have hr : r < P.cellsOf el := by
                        have := (Array.getElem?_eq_some_iff.1 hv).1
                        have := q2.size
                        omega
                      have := idx_lt hlt hr
                      rw [hget, if_neg (by omega)]
                      exact q3 r v hv
                    · rw [List.getElem?_append_right (by simp; omega), List.getElem?_replicate] at hj
                      split at hj
                      · rename_i hjl
                        simp at hj hjl
                        subst hj
                        simp only [hlt, if_false]
                        refine ⟨z3, z5 _ _, fun r v hv => ?_⟩
                        have hr : r < P.cellsOf el := by
                          have := (Array.getElem?_eq_some_iff.1 hv).1
                          rw [z6] at this
                          omega
                        have hji : j - i < len - i := by omega
                        have e3 : j * P.cellsOf el = i * P.cellsOf el + (j - i) * P.cellsOf el := by rw [← Nat.add_mul]; congr 1; omega
                        have := idx_lt hji hr
                        rw [hget, if_pos (by omega), show f + j * P.cellsOf el + r - (f + i * P.cellsOf el) = (j - i) * P.cellsOf el + r by omega]
                        exact zc2 (j - i) r v hji (by rw [← z6]; exact hv)
                      · cases hj⟩)
                refine ⟨.tuple #[], ρ, G, w', ?_, hset.1, hset.2, .tuple [] #[] rfl fun i v c hv => by simp at hv⟩
                have hli : len - i ≠ 0 := by omega
                obtain ⟨ld, hld⟩ : ∃ d, len - i = d + 1 := ⟨len - i - 1, by omega⟩
                have hz : (zeroValue el).run P w = .ok zv w := z1
                unfold Builtin.clear_
                simp only [h0, List.getElem?_toArray, List.getElem?_cons_zero, Sem.run_bind, run_underlying hu, Result.andThen_ok]
                simp only [hz, Result.andThen_ok, hzc, s1, Sem.run_pure]
            · cases he
          · cases he
        · cases he
      · cases he
    · cases he
  · cases he

end
end Go.Proofs.YticdhmcbooabaaaDoor.V
