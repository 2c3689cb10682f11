/- V10: texts that are ranged over, arrays out of slices, tuples, closures; an operation as a whole. No claim. -/
import Derived.Test.YticdhmcbooabaaaDoor9
set_option linter.unusedVariables false
set_option linter.unusedSimpArgs false
namespace Go.Proofs.YticdhmcbooabaaaDoor.V
open Go

section
variable {B n0 : Nat} {ρ : Emb} {G : Cs} {w : World} {S : Look} {P : Program} {E : Env}

theorem rel_nil {R : Value → SV → Prop} : ∀ (i : Nat) v c, (#[] : Array Value)[i]? = some v → ([] : List SV)[i]? = some c → R v c := fun i v c h => by simp at h

inductive All2 {α β : Type} (R : α → β → Prop) : List α → List β → Prop
  | nil : All2 R [] []
  | cons {a b l r} (h : R a b) (t : All2 R l r) : All2 R (a :: l) (b :: r)

theorem rel_list {R : Value → SV → Prop} {vs : List Value} {cs : List SV} (h : All2 R vs cs) :
    vs.toArray.size = cs.length ∧ ∀ (i : Nat) v c, vs.toArray[i]? = some v → cs[i]? = some c → R v c := by
  induction h with
  | nil => exact ⟨rfl, rel_nil⟩
  | cons h0 hr ih =>
    refine ⟨by simpa using ih.1, fun i v c hv hc => ?_⟩
    cases i with
    | zero => simp at hv hc; subst hv hc; exact h0
    | succ i => exact ih.2 i v c (by simpa using hv) (by simpa using hc)

theorem range_sound (h : SInv ρ G B n0 w S) {t : TypeId} {nk : Nat} {v : Value} {x : SV} (hv : RelV ρ G B n0 w S v x) {e : Eff} (he : rangeV P nk S t x = some e) :
    Comes1 P B n0 ρ G w S (Instr.range t v) e := by
  unfold rangeV at he
  split at he
  · rename_i m s hu
    split at he
    · rename_i hk
      simp only [Option.some.injEq] at he
      subst he
      cases hv with
      | pure _ _ _ hv =>
        cases hv with
        | str bs =>
          have hnew := inv_new (k := nk) (ρ' := fun j => if nk = j then some (w.heap.size, 0, 0) else ρ j) (p := some (w.heap.size, 0, 0)) (ob := .iter bs.data.toList 0) (w' := { w with heap := w.heap.push (.stringIter bs 0) })
            (S' := over [(nk, .iter bs.data.toList 0)] S) h (.push rfl rfl rfl rfl) (by simpa using hk) (fun j => over_one ..) (fun j => rfl) (fun b c hb => by cases hb; simp)
            (fun hx => ⟨w.heap.size, (0, 0), by simp, by simp⟩)
          refine ⟨_, _, G, _, ?_, hnew.1, hnew.2, .iter nk w.heap.size (0, 0) (.iter bs.data.toList 0) (by rw [over_one, if_pos rfl]) rfl (by simp)⟩
          unfold Instr.range
          simp only [Sem.run_bind, run_underlying hu, Result.andThen_ok, Sem.run_pure]
          rfl
    · cases he
  · cases he

theorem next_sound (h : SInv ρ G B n0 w S) {v : Value} {x : SV} {ty : TypeId} (hv : RelV ρ G B n0 w S v x) {e : Eff} (he : nextV S x = some e) :
    Comes1 P B n0 ρ G w S (Instr.next v true ty) e := by
  unfold nextV at he
  split at he
  · rename_i k
    cases hv with
    | iter _ b c ob hk hr hb =>
      split at he
      · rename_i s pos hk'
        obtain ⟨b', c', o1, o2⟩ := h.obj k _ hk'
        rw [hb] at o1
        cases o1
        have hobj : (getObj b).run P w = .ok (.stringIter ⟨s.toArray⟩ pos) w := by simp [getObj, Sem.run, o2]
        have hsz : (⟨s.toArray⟩ : ByteArray).size = s.length := rfl
        split at he
        · rename_i hlt
          simp only [Option.some.injEq] at he
          subst he
          have hset := set_obj (ob' := .iter s (pos + (Utf8.decode ⟨s.toArray⟩ pos).2)) (o := .stringIter ⟨s.toArray⟩ (pos + (Utf8.decode ⟨s.toArray⟩ pos).2)) (S' := over [(k, .iter s (pos + (Utf8.decode ⟨s.toArray⟩ pos).2))] S) h hk' hb rfl rfl
            (fun _ h => h) (fun j => over_one ..) (fun o v hv => by simp [World.cell?, o2] at hv) (fun hx => ⟨b, c, hb, getElem_set_self o2⟩)
          obtain ⟨t1, t2⟩ := rel_list (R := RelV ρ G B n0 { w with heap := w.heap.setIfInBounds b (.stringIter ⟨s.toArray⟩ (pos + (Utf8.decode ⟨s.toArray⟩ pos).2)) } (over [(k, .iter s (pos + (Utf8.decode ⟨s.toArray⟩ pos).2))] S))
            (vs := [.bool true, .int .i64 pos, .int .i32 (Utf8.decode ⟨s.toArray⟩ pos).1]) (cs := [.pure true (.bool true), .pure true (.int .i64 pos), .pure true (.int .i32 (Utf8.decode ⟨s.toArray⟩ pos).1)])
            (.cons (.pure _ _ _ (.bool _)) (.cons (.pure _ _ _ (.int _ _)) (.cons (.pure _ _ _ (.int _ _)) .nil)))
          refine ⟨_, ρ, G, _, ?_, hset.1, hset.2, .tuple _ _ t1 t2⟩
          unfold Instr.next
          simp only [Sem.run_bind, hobj, Result.andThen_ok, hsz, if_pos hlt, Sem.run_pure]
          simp [setObj, Sem.run, o2, goInt]
        · rename_i hge
          simp only [Option.some.injEq] at he
          subst he
          obtain ⟨t1, t2⟩ := rel_list (R := RelV ρ G B n0 w S) (vs := [.bool false]) (cs := [.pure true (.bool false)]) (.cons (.pure _ _ _ (.bool _)) .nil)
          refine Comes1.still h (u := .tuple #[.bool false]) ?_ rfl (.tuple _ _ t1 t2)
          unfold Instr.next
          simp only [Sem.run_bind, hobj, Result.andThen_ok, hsz, if_neg hge, Sem.run_pure]
      · cases he
  · cases he

theorem flatMap_get {z : Nat} (hz : 0 < z) {xs : List PV} : ∀ {i : Nat} {c : PV}, (∀ (j : Nat) x, xs[j]? = some x → x.cells.length = z) → (xs.flatMap PV.cells)[i]? = some c →
    ∃ j x r, xs[j]? = some x ∧ x.cells[r]? = some c ∧ i = j * z + r := by
  induction xs with
  | nil => intro i c _ h; simp at h
  | cons y l ih =>
    intro i c hw h
    rw [List.flatMap_cons] at h
    have h0 := hw 0 y rfl
    by_cases hi : i < z
    · rw [List.getElem?_append_left (by omega)] at h
      exact ⟨0, y, i, rfl, h, by simp⟩
    · rw [List.getElem?_append_right (by omega)] at h
      obtain ⟨j, x, r, h1, h2, h3⟩ := ih (fun j x hx => hw (j + 1) x (by simpa using hx)) h
      exact ⟨j + 1, x, r, by simpa using h1, h2, by rw [Nat.succ_mul]; omega⟩

theorem arrayAt_sound (h : SInv ρ G B n0 w S) {t : TypeId} {v : Value} {x s : SV} (hv : RelV ρ G B n0 w S v x) (he : arrayAtV P t x = some s) : Comes1 P B n0 ρ G w S (Instr.arrayAt t v) { res := s } := by
  unfold arrayAtV at he
  split at he
  · rename_i n et m xs hu
    split at he
    · rename_i hc
      obtain ⟨hn, hpos, hz, hw⟩ := hc
      simp only [Option.some.injEq] at he
      subst he
      cases hv with
      | pure _ _ _ hv =>
        cases hv with
        | nil A cap => simp at hn; omega
        | sl b off len cap z _ vs hl hz' hcap he hw' hm =>
          refine Comes1.still h (u := .pointer (some ⟨b, off, none⟩)) ?_ rfl (.rptr m _ b off (fun c hc => ?_) fun i c hi => ?_)
          · unfold Instr.arrayAt
            simp only [Sem.run_bind, run_underlying hu, Result.andThen_ok]
            have : ¬ len < n := by omega
            simp [this]
          · obtain ⟨y, hy, hc⟩ := List.mem_flatMap.1 hc
            obtain ⟨j, hj⟩ := List.getElem?_of_mem (List.mem_of_mem_take hy)
            obtain ⟨r, hr⟩ := List.getElem?_of_mem hc
            have hs := (he j y hj).size
            have hlt := (List.getElem?_eq_some_iff.1 hr).1
            have hg : (vs j).cells[r]? = some (vs j).cells[r] := Array.getElem?_eq_getElem (by omega)
            exact ((he j y hj).cell r _ c hg hr).2
          · obtain ⟨j, y, r, h1, h2, h3⟩ := flatMap_get (z := z) (xs := xs.take n) hz' (fun j y hy => by
              rw [List.getElem?_take] at hy
              split at hy
              · exact hw' j y hy
              · cases hy) hi
            have h1' : xs[j]? = some y := by
              rw [List.getElem?_take] at h1
              split at h1
              · exact h1
              · cases h1
            have hs := (he j y h1').size
            have hlt := (List.getElem?_eq_some_iff.1 h2).1
            have hg : (vs j).cells[r]? = some (vs j).cells[r] := Array.getElem?_eq_getElem (by omega)
            have hmm := hm j y r _ h1' hg
            refine ⟨(vs j).cells[r], ?_, ?_, ((he j y h1').cell r _ c hg h2).1⟩
            · rw [h3, ← Nat.add_assoc]; exact hmm.1
            · rw [h3, ← Nat.add_assoc]; exact hmm.2.1
    · cases he
  · cases he

/-! ### an operation as a whole -/
/-- What the slots bear. -/
def RelS (ρ : Emb) (G : Cs) (B n0 : Nat) (w : World) (S : Look) (s : Nat → Option SV) (a : Act) : Prop :=
  ∀ t sv, s t = some sv → RelV ρ G B n0 w S (a.tmps.getD t undef) sv

/-- What is known of the laid globals: they are read alone. -/
structure GlobOk (E : Env) (G : Cs) (B : Nat) (w : World) : Prop where
  glob : ∀ g cs, E.glob g = some cs → (∀ c ∈ cs, c.isAgg = false) ∧ ∀ (i : Nat) c, cs[i]? = some c → ∃ v, w.cell? ⟨g, i, none⟩ = some v ∧ G g i ∧ RepV G w v c

theorem GlobOk.ext {K : Nat → Prop} {ρ' : Emb} {G' : Cs} {w' : World} {S' : Look} (h : GlobOk E G B w) (hx : Ext K B n0 ρ G w S ρ' G' w' S') : GlobOk E G' B w' :=
  ⟨fun g cs hg => ⟨(h.glob g cs hg).1, fun i c hi => by
    obtain ⟨v, h1, h2, h3⟩ := (h.glob g cs hg).2 i c hi
    exact ⟨v, (hx.g _ _ h2).2 _ h1, (hx.g _ _ h2).1, h3.mono hx.g⟩⟩⟩

theorem eval_rel (hg : GlobOk E G B w) {s : Nat → Option SV} {a : Act} (hs : RelS ρ G B n0 w S s a) (x : Operand) : RelV ρ G B n0 w S (a.eval x) (evalO E s x) := by
  cases x with
  | tmp t =>
    simp only [evalO, Act.eval]
    cases h : s t with
    | none => exact .dead _
    | some sv => exact hs t sv h
  | const v =>
    simp only [evalO, Act.eval]
    split
    · rename_i x hx
      exact .pure _ _ _ (constV_rep hx _ _)
    · exact .dead _
  | global g =>
    simp only [evalO, Act.eval]
    split
    · rename_i cs hc
      obtain ⟨h1, h2⟩ := hg.glob g cs hc
      refine .rptr false cs g 0 h1 fun i c hi => ?_
      obtain ⟨v, h3, h4, h5⟩ := h2 i c hi
      exact ⟨v, by simpa using h3, by simpa using h4, h5.weaken fun b o hb => ⟨hb, fun h => by cases h⟩⟩
    · exact .dead _
  | func f => exact .clo f [] #[] rfl rel_nil

end
end Go.Proofs.YticdhmcbooabaaaDoor.V
