/- V28: a package variable that is laid, of slices of strings: what it reads as is what the evaluator's globals say. No claim. -/
import Derived.Test.YticdhmcbooabaaaDoor27
import Derived.Lib.LaidU8
import Derived.ProofKit
import Derived.OpenShut
import Derived.ChangeArms
import Derived.ChangeCalls
import Derived.ChangeOld
import Derived.Below
import Derived.SizedLaws
set_option linter.unusedVariables false
set_option linter.unusedSimpArgs false
namespace Go.Proofs.YticdhmcbooabaaaDoor.V
open Go
open Go.ChangeShapes Go.WideShapes Go.ChangeAt Go.RowKit
section
variable {P : Program} {H : Type} {enc : TypeId × Value → H} {w : World}

/-- One string. -/
theorem lay_str {t : TypeId} (hu : P.underlying t = some .string) {fuel : Nat} {sp : Nat → Bool} {hd : Bool} {cs : List Value} {s : List UInt8} {ps : List MemPlace} (ht : DataW.trod enc P w 0 sp hd fuel t cs = some (.lit (.string s), ps)) :
    ∃ v, cs = [v] ∧ RepV (Olds w) w v (.str s) := by
  cases fuel with
  | zero => simp [DataW.trod] at ht
  | succ m =>
    unfold DataW.trod at ht
    rw [hu] at ht
    split at ht <;> simp_all
    rename_i s'
    obtain ⟨h1, h2, _⟩ := ht
    first
    | (subst h2; exact .str s')
    | (rw [← h2]; exact .str s')

/-- A slice of things of one cell. -/
theorem lay_slice {t e : TypeId} (hu : P.underlying t = some (.slice e)) (hz : P.cellsOf e = 1) (g : DataW H → PV) (R : DataW H → Prop) (hg : ∀ d, (g d).isAgg = false)
    (ih : ∀ {fuel : Nat} {sp : Nat → Bool} {hd : Bool} {cs : List Value} {d : DataW H} {ps : List MemPlace}, R d → DataW.trod enc P w 0 sp hd fuel e cs = some (d, ps) → ∃ v, cs = [v] ∧ RepV (Olds w) w v (g d))
    {fuel : Nat} {sp : Nat → Bool} {hd : Bool} {cs : List Value} {es rs : List (DataW H)} {ps : List MemPlace} (hR : ∀ d ∈ es, R d) (ht : DataW.trod enc P w 0 sp hd fuel t cs = some (.slice es rs, ps)) :
    ∃ v, cs = [v] ∧ RepV (Olds w) w v (.sl (es.map g)) := by
  rcases DataW.trod_slice hu ht with ⟨rfl, hx⟩ | ⟨a, len, cap, elems, rest, m, _, rfl, hx, hb, hle, hmx, hlen, hel, _, _⟩
  · cases hx
  · have hes : es = elems.map (·.1) := by
      have := congrArg Prod.fst hx
      simp only [DataW.slice.injEq] at this
      exact this.1
    subst hes
    refine ⟨_, rfl, ?_⟩
    have hget : ∀ i (hi : i < elems.length), ∃ v, RepV (Olds w) w v (g elems[i].1) ∧ w.cell? (a.add i) = some v := by
      intro i hi
      have h1 := hel i (by omega)
      rw [hz, Nat.mul_one] at h1
      cases hc : w.cells? 0 (a.add i) 1 with
      | none =>
        rw [hc] at h1
        simp [hi] at h1
      | some cs =>
        rw [hc, List.getElem?_eq_getElem hi] at h1
        simp only [Option.bind_some] at h1
        obtain ⟨_, c1, c2⟩ := World.cells?_some hc
        obtain ⟨v, rfl, r1⟩ := ih (d := elems[i].1) (ps := elems[i].2) (hR _ (List.mem_map.2 ⟨_, List.getElem_mem hi, rfl⟩)) h1
        have := c2 0 (by omega)
        rw [add_add] at this
        exact ⟨v, r1, by simpa using this⟩
    rcases Nat.eq_zero_or_pos len with h0 | hpos
    · have : elems = [] := List.eq_nil_of_length_eq_zero (by omega)
      subst this
      subst h0
      exact .nil (some a) cap
    · obtain ⟨v0, _, hc0⟩ := hget 0 (by omega)
      have hspot : a.spot = none := by
        cases hs : a.spot with
        | none => rfl
        | some s =>
          unfold World.cell? at hc0
          split at hc0
          · simp [Addr.add, hs] at hc0
          · cases hc0
      obtain ⟨b, off, spot⟩ := a
      simp only at hspot
      subst hspot
      let f : Nat → Value := fun i => if hi : i < elems.length then Classical.choose (hget i hi) else undef
      have hf : ∀ i (hi : i < elems.length), RepV (Olds w) w (f i) (g elems[i].1) ∧ w.cell? (Addr.add ⟨b, off, none⟩ i) = some (f i) := by
        intro i hi
        simp only [f, dif_pos hi]
        exact Classical.choose_spec (hget i hi)
      have hxs : ∀ (j : Nat) x, ((elems.map (·.1)).map g)[j]? = some x → ∃ hj : j < elems.length, x = g elems[j].1 := fun j x hj => by
        rw [List.getElem?_map, List.getElem?_map] at hj
        by_cases hl : j < elems.length
        · rw [List.getElem?_eq_getElem hl] at hj
          simp at hj
          exact ⟨hl, hj.symm⟩
        · rw [List.getElem?_eq_none (by omega)] at hj
          cases hj
      refine .sl b off len cap 1 _ f (by simp [hlen]) (by omega) hle (fun j x hj => ?_) (fun j x hj => ?_) (fun j x i u hj hu' => ?_)
      · obtain ⟨h1, rfl⟩ := hxs j x hj
        exact (hf j h1).1
      · obtain ⟨h1, rfl⟩ := hxs j x hj
        rw [nagg_cells (hg _)]
        rfl
      · obtain ⟨h1, rfl⟩ := hxs j x hj
        obtain ⟨q1, q2⟩ := hf j h1
        rw [(q1.plain (hg _)).cells] at hu'
        have hi0 : i = 0 := by
          have := (Array.getElem?_eq_some_iff.1 hu').1
          simp at this
          exact this
        subst hi0
        have : f j = u := by simpa using hu'
        subst this
        rw [add_at] at q2
        rw [Nat.mul_one, Nat.add_zero]
        exact ⟨q2, show b < w.heap.size from cell_lt q2⟩

def strD (l : List UInt8) : DataW H := .lit (.string l)
def rowD (l : List (List UInt8)) : DataW H := .slice (l.map strD) []
def rowsD (l : List (List (List UInt8))) : DataW H := .slice (l.map rowD) []
def strP : DataW H → PV
  | .lit (.string s) => .str s
  | _ => .sl []
def rowP : DataW H → PV
  | .slice es _ => .sl (es.map strP)
  | _ => .sl []
theorem lay_row {t e : TypeId} (hu : P.underlying t = some (.slice e)) (he : P.underlying e = some .string) (hz : P.cellsOf e = 1) {fuel : Nat} {sp : Nat → Bool} {hd : Bool} {cs : List Value} {d : DataW H} {ps : List MemPlace} (hR : ∃ l, d = rowD l)
    (ht : DataW.trod enc P w 0 sp hd fuel t cs = some (d, ps)) : ∃ v, cs = [v] ∧ RepV (Olds w) w v (rowP d) := by
  obtain ⟨l, rfl⟩ := hR
  exact lay_slice hu hz strP (fun d => ∃ s, d = strD s) (fun d => by unfold strP; split <;> rfl) (fun {fuel sp hd cs d ps} hR h => by
    obtain ⟨s, rfl⟩ := hR
    exact lay_str he h) (fun d hd => by
    obtain ⟨s, _, rfl⟩ := List.mem_map.1 hd
    exact ⟨s, rfl⟩) ht
theorem lay_rows {t t2 e : TypeId} (hu : P.underlying t = some (.slice t2)) (hz2 : P.cellsOf t2 = 1) (hu2 : P.underlying t2 = some (.slice e)) (he : P.underlying e = some .string) (hz : P.cellsOf e = 1) {fuel : Nat} {sp : Nat → Bool} {hd : Bool} {cs : List Value} {l : List (List (List UInt8))} {ps : List MemPlace}
    (ht : DataW.trod enc P w 0 sp hd fuel t cs = some (rowsD l, ps)) : ∃ v, cs = [v] ∧ RepV (Olds w) w v (.sl (l.map fun r => .sl (r.map .str))) := by
  obtain ⟨v, h1, h2⟩ := lay_slice hu hz2 rowP (fun d => ∃ l, d = rowD l) (fun d => by unfold rowP; split <;> rfl) (fun hR h => lay_row hu2 he hz hR h) (fun d hd => by
    obtain ⟨s, _, rfl⟩ := List.mem_map.1 hd
    exact ⟨s, rfl⟩) ht
  refine ⟨v, h1, ?_⟩
  have : (l.map rowD).map (rowP (H := H)) = l.map fun r => PV.sl (r.map .str) := by
    rw [List.map_map]
    apply List.map_congr_left
    intro r _
    show PV.sl ((r.map strD).map strP) = _
    rw [List.map_map]
    rfl
  rwa [this] at h2

/-- What a listed variable holds, as the evaluator's globals ask it. -/
theorem glob_rows {L : List (String × DataW Unit)} {name : String} {g : Nat} {t t2 e : TypeId} {l : List (List (List UInt8))} (h : laidMet P L w) (hm : (name, rowsD l) ∈ L) (hg : P.globalNamed name = some g) (hgt : (P.globals[g]?).map (·.type) = some t)
    (hu : P.underlying t = some (.slice t2)) (hz2 : P.cellsOf t2 = 1) (hu2 : P.underlying t2 = some (.slice e)) (he : P.underlying e = some .string) (hz : P.cellsOf e = 1) :
    ∃ v, w.cell? ⟨g, 0, none⟩ = some v ∧ Olds w g 0 ∧ RepV (Olds w) w v (.sl (l.map fun r => .sl (r.map .str))) := by
  obtain ⟨g', t', cs, fuel, p, h1, h2, h3, h4⟩ := Lib.laidMet.reads h hm
  obtain rfl : g = g' := Option.some.inj (hg.symm.trans h1)
  obtain rfl : t = t' := Option.some.inj (hgt.symm.trans h2)
  obtain ⟨v, e1, e2⟩ := lay_rows hu hz2 hu2 he hz h4
  have hc : w.cell? ⟨g, 0, none⟩ = some v := by
    have := World.var?_cell h1 h3 0
    rw [← Array.getElem?_toList, e1] at this
    simpa using this
  exact ⟨v, hc, show g < w.heap.size from cell_lt hc, e2⟩
end
section
variable {P : Program} {E : Env}
/-- The same, where package variables are laid. -/
theorem law_contractG {H : Type} {enc : TypeId × Value → H} (hE : EnvAll P E) (hlaid : laidOutB P = true) {F : FuncId} {fn : Func} {s : ChangeSpec} {N rt : TypeId} (hvars : s.vars = []) (hrt : fn.resultTypes = #[rt]) (hub : P.underlying rt = some .bool)
    (hread : (fn.params.toList.all fun t => P.readableRec t && decide (t < P.types.size)) = true) (hok : fn.params.toList.all (typeOk P N) = true)
    (hspec : ∀ ds : List (DataW H), ds.length = fn.params.size → s.fn H ds = { results := [.lit (.bool true)], args := ds })
    (law : ∀ xs : List PV, All2 (WfV P N) fn.params.toList xs → ∃ n m S1, callF P E n F (xs.map (.pure false)) [] = some (.pure m (.bool true), S1))
    (W : World) (hgl : GlobOk E (Olds W) W.heap.size W) (base : Nat) (args : Array Value) (ds gs : List (DataW H)) (before : List MemPlace)
    (hval : ∀ (j : Nat) t v, fn.params[j]? = some t → args[j]? = some v → Value.okWide P W .any base t v)
    (hW : DataW.Whole enc P fn.params.toList s.vars false W args.toList ds gs before)
    (hsz : (DataW.weightsEach P (fn.params.toList ++ s.plain.varTypes P) (ds ++ gs)).all (· ≤ reachBytes) = true) :
    Calls P F args W fun e W' => ∃ v, e = .returned v ∧ s.post enc P fn false true false false W args v W' := by
  have hW' := hW
  obtain ⟨p, q, hA, hV, rfl, hfz, hnd⟩ := hW
  rw [hvars] at hV
  obtain ⟨rfl, rfl⟩ := trodVars_none hV
  simp only [List.append_nil] at hW' hsz
  have hlen := trodAll_length hA
  obtain ⟨xs, r1, r2⟩ := args_rep (b0 := base) (r := .any) hok (fun j t v ht hv => hval j t v (by simpa using ht) (by simpa using hv)) hA fun k hk => by
    have hall := List.all_eq_true.1 hsz
    have hmem : ∀ (ts us : List TypeId) (ds : List (DataW H)), k ∈ DataW.weightsEach P ts ds → k ∈ DataW.weightsEach P (ts ++ us) ds := by
      intro ts
      induction ts with
      | nil => intro us ds h; simp [DataW.weightsEach] at h
      | cons t ts ih =>
        intro us ds h
        cases ds with
        | nil => simp [DataW.weightsEach] at h
        | cons d ds =>
          simp only [List.cons_append, DataW.weightsEach, List.mem_append] at h ⊢
          exact h.imp id (ih us ds)
    have := hall k (hmem _ _ _ hk)
    simpa using this
  obtain ⟨n, m, S1, hrun⟩ := law xs r2
  have hinv : SInv (fun _ => none) (Olds W) W.heap.size 0 W (get []) := by
    refine ⟨fun k k' b c c' h => by simp at h, fun k b c h => by simp at h, fun b o h => h, fun k b c ob o h => by simp at h, fun k ob h => by simp [get] at h, fun k _ => rfl, fun k b c _ h => by simp at h, Nat.le_refl _⟩
  refine (callF_sound hE n F (xs.map (.pure false)) [] _ S1 hrun args (fun _ => none) (Olds W) W (by simp [get]) hinv hgl (by simpa using r1.length) (fun i v s hv hs => ?_)).mono ?_
  · rw [List.getElem?_map] at hs
    cases hx : xs[i]? with
    | none => rw [hx] at hs; cases hs
    | some x =>
      rw [hx] at hs
      cases hs
      exact .pure _ _ _ ((r1.get i v x (by simpa using hv) hx).weaken fun b o hb => ⟨hb, fun h => by cases h⟩)
  · rintro e W' ⟨u, ρ', G', rfl, q1, q2, q3, q4⟩
    have hu : u = .bool true := by
      cases q3 with
      | pure _ _ _ h => cases h; rfl
    subst hu
    have bel : Below W.heap.size W W' := ⟨q2.os, q2.tape, q2.out, q2.size, fun k hk => q2.frame k hk fun _ _ h => by simp at h⟩
    refine ⟨_, rfl, ds, [], p, [], p, [], by simpa using hW', ?_, ?_, ?_, bel.frame _, fun h => by cases h⟩
    · rw [List.append_nil, hspec ds (by
        have := hlen
        simp at this
        omega), hrt]
      exact trodAll_mk1 (shut_bool hub _)
    · rw [List.append_nil, hspec ds (by
        have := hlen
        simp at this
        omega)]
      exact trodAll_below hlaid bel hread hA
    · rw [hvars]
      rw [List.append_nil, hspec ds (by
        have := hlen
        simp at this
        omega)]
      rfl

end
end Go.Proofs.YticdhmcbooabaaaDoor.V
