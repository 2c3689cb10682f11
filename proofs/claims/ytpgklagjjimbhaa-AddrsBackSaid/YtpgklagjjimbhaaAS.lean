/- YtpgklagjjimbhaaAS: addresses: what is bad, and what is mended: the plain law. No claim. -/
import Derived.Test.YtpgklagjjimbhaaAH
set_option linter.unusedVariables false
set_option linter.unusedSimpArgs false
set_option maxRecDepth 100000
namespace Go.Proofs.Ytpgklagjjimbhaa
open Go Go.Proofs.Ytpgklagjjimbhaa.V

def isMend (p : Int) (pre : List Opt) (o : Opt) : Bool := rightP p o && (findO pre o.1).isNone
def mendO (p : Int) (l : List Opt) : Nat → List Opt
  | 0 => []
  | i + 1 => match l[i]? with
    | some o => if isMend p (l.take i) o = true then mendO p l i ++ [o] else mendO p l i
    | none => mendO p l i
theorem mend_yes {p : Int} {l : List Opt} {i : Nat} (h : i < l.length) (e : isMend p (l.take i) l[i] = true) : mendO p l (i + 1) = mendO p l i ++ [l[i]] := by
  simp [mendO, h, e]
theorem mend_no {p : Int} {l : List Opt} {i : Nat} (h : i < l.length) (e : isMend p (l.take i) l[i] = false) : mendO p l (i + 1) = mendO p l i := by
  simp [mendO, h, e]
theorem right_known {p : Int} {o : Opt} (h : rightP p o = true) : knownP p o.1 = true := by
  unfold rightP at h
  rw [Bool.and_eq_true] at h
  exact h.1
theorem right_instead {p t : Int} (h : knownP p t = true) : rightP p (t, insteadD p t) = true := by
  by_cases h1 : p = 32855
  · subst h1
    have := knownP_ip6 h
    subst this
    rfl
  · obtain ⟨e, ht⟩ := knownP_ipc h1 h
    subst e
    have : t = 2 ∨ t = 3 ∨ t = 129 ∨ t = 130 ∨ t = 131 ∨ t = 132 := by omega
    rcases this with rfl | rfl | rfl | rfl | rfl | rfl <;> rfl
theorem find_none {l : List Opt} {t : Int} (h : (findO l t).isSome = false) : t ∉ l.map (·.1) := by
  rw [findO_mem] at h
  simpa using h
theorem find_some {l : List Opt} {t : Int} (h : (findO l t).isSome = true) : t ∈ l.map (·.1) := by
  rw [findO_mem] at h
  simpa using h
theorem not_away {p : Int} {pre : List Opt} {o : Opt} (h : isAway p pre o = false) : knownP p o.1 = true ∧ (findO pre o.1).isSome = false := by
  unfold isAway at h
  rw [Bool.or_eq_false_iff] at h
  exact ⟨by simpa using h.1, h.2⟩
theorem mend_of {p : Int} {pre : List Opt} {o : Opt} (h : isAway p pre o = false) (hr : rightP p o = true) : isMend p pre o = true := by
  unfold isMend
  rw [hr, Option.not_isSome .. |>.symm, (not_away h).2]
  rfl
theorem mend_not {p : Int} {pre : List Opt} {o : Opt} (h : isAway p pre o = true) : isMend p pre o = false := by
  unfold isMend
  cases hr : rightP p o with
  | false => rfl
  | true =>
    unfold isAway at h
    rw [right_known hr] at h
    have : (findO pre o.1).isSome = true := h
    rw [Option.not_isSome .. |>.symm, this]
    rfl
theorem mend_bad {p : Int} {pre : List Opt} {o : Opt} (hr : rightP p o = false) : isMend p pre o = false := by
  unfold isMend
  rw [hr]
  rfl

/-- What holds of the parts. -/
structure Parts (p : Int) (l : List Opt) (i : Nat) : Prop where
  sum : (mendO p l i).length + (awayO p l i).length + (changedO p l i).length = i
  sub : (awayO p l i).Sublist (l.take i)
  right : ∀ o ∈ mendO p l i ++ changedO p l i, rightP p o = true
  once : ((mendO p l i ++ changedO p l i).map (·.1)).Nodup
  types : ∀ t ∈ (mendO p l i ++ changedO p l i).map (·.1), t ∈ (l.take i).map (·.1)
  none : (awayO p l i = [] ∧ changedO p l i = []) ↔ (rightTo p l i ∧ ((l.take i).map (·.1)).Nodup)
theorem mem_take_s {l : List Opt} {i : Nat} (hi : i < l.length) {t : Int} (h : t ∈ (l.take i).map (·.1)) : t ∈ (l.take (i + 1)).map (·.1) := by
  rw [← List.take_append_getElem hi, List.map_append]
  exact List.mem_append_left _ h
theorem mem_take_n {l : List Opt} {i : Nat} (hi : i < l.length) : l[i].1 ∈ (l.take (i + 1)).map (·.1) := by
  rw [← List.take_append_getElem hi, List.map_append]
  exact List.mem_append_right _ (by simp)
theorem rightTo_back {p : Int} {l : List Opt} {i : Nat} (h : rightTo p l (i + 1)) : rightTo p l i := ⟨by have := h.1; omega, fun j hj hlt => h.2 j hj (by omega)⟩
theorem nodup_back {l : List Opt} {i : Nat} (hi : i < l.length) (h : ((l.take (i + 1)).map (·.1)).Nodup) : ((l.take i).map (·.1)).Nodup ∧ l[i].1 ∉ (l.take i).map (·.1) := by
  rw [← List.take_append_getElem hi, List.map_append, List.nodup_append] at h
  refine ⟨h.1, fun hm => ?_⟩
  exact h.2.2 _ hm _ (by simp) rfl
theorem parts_next {p : Int} {l : List Opt} {i : Nat} (hi : i < l.length) (h : Parts p l i) : Parts p l (i + 1) := by
  have hs : (l.take i).Sublist (l.take (i + 1)) := by rw [← List.take_append_getElem hi]; exact List.sublist_append_left _ _
  cases hA : isAway p (l.take i) l[i] with
  | true =>
    obtain ⟨e1, e2⟩ := away_yes hi hA
    have e3 := mend_no hi (mend_not hA)
    refine ⟨?_, ?_, ?_, ?_, ?_, ?_⟩
    · rw [e1, e2, e3, List.length_append]
      have := h.sum
      simp only [List.length_cons, List.length_nil]
      omega
    · rw [e1, ← List.take_append_getElem hi]
      exact h.sub.append (List.Sublist.refl _)
    · rw [e2, e3]; exact h.right
    · rw [e2, e3]; exact h.once
    · rw [e2, e3]; exact fun t ht => mem_take_s hi (h.types t ht)
    · rw [e1, e2]
      constructor
      · rintro ⟨h1, _⟩
        simp at h1
      · rintro ⟨h1, h2⟩
        exfalso
        have hr := h1.2 i hi (by omega)
        unfold isAway at hA
        rw [right_known hr] at hA
        exact (nodup_back hi h2).2 (find_some hA)
  | false =>
    obtain ⟨hk, hf⟩ := not_away hA
    have hn := find_none hf
    have hfresh : l[i].1 ∉ (mendO p l i ++ changedO p l i).map (·.1) := fun hm => hn (h.types _ hm)
    cases hr : rightP p l[i] with
    | true =>
      obtain ⟨e1, e2⟩ := away_no hi hA hr
      have e3 := mend_yes hi (mend_of hA hr)
      have hp : (mendO p l i ++ [l[i]] ++ changedO p l i).Perm (l[i] :: (mendO p l i ++ changedO p l i)) := by
        rw [List.append_assoc]
        exact List.perm_middle
      refine ⟨?_, ?_, ?_, ?_, ?_, ?_⟩
      · rw [e1, e2, e3, List.length_append]
        have := h.sum
        simp only [List.length_cons, List.length_nil]
        omega
      · rw [e1]; exact h.sub.trans hs
      · rw [e2, e3]
        intro o ho
        rcases List.mem_cons.1 (hp.mem_iff.1 ho) with rfl | ho
        · exact hr
        · exact h.right o ho
      · rw [e2, e3, (hp.map _).nodup_iff, List.map_cons, List.nodup_cons]
        exact ⟨hfresh, h.once⟩
      · rw [e2, e3]
        intro t ht
        have := (hp.map (·.1)).mem_iff.1 ht
        rw [List.map_cons] at this
        rcases List.mem_cons.1 this with rfl | ht
        · exact mem_take_n hi
        · exact mem_take_s hi (h.types t ht)
      · rw [e1, e2, h.none]
        constructor
        · rintro ⟨h1, h2⟩
          exact ⟨rightTo_next h1 hi hr, nodup_take hi h2 hn⟩
        · rintro ⟨h1, h2⟩
          exact ⟨rightTo_back h1, (nodup_back hi h2).1⟩
    | false =>
      obtain ⟨e1, e2⟩ := away_bad hi hA hr
      have e3 := mend_no hi (mend_bad (pre := l.take i) hr)
      have ea : mendO p l i ++ (changedO p l i ++ [(l[i].1, insteadD p l[i].1)]) = (mendO p l i ++ changedO p l i) ++ [(l[i].1, insteadD p l[i].1)] := by rw [List.append_assoc]
      refine ⟨?_, ?_, ?_, ?_, ?_, ?_⟩
      · rw [e1, e2, e3, List.length_append]
        have := h.sum
        simp only [List.length_cons, List.length_nil]
        omega
      · rw [e1]; exact h.sub.trans hs
      · rw [e2, e3, ea]
        intro o ho
        rcases List.mem_append.1 ho with ho | ho
        · exact h.right o ho
        · rw [List.mem_singleton] at ho
          subst ho
          exact right_instead hk
      · rw [e2, e3, ea, List.map_append, List.nodup_append]
        refine ⟨h.once, by simp, fun a ha b hb e => ?_⟩
        simp only [List.map_cons, List.map_nil, List.mem_singleton] at hb
        subst hb
        subst e
        exact hfresh ha
      · rw [e2, e3, ea]
        intro t ht
        rw [List.map_append] at ht
        rcases List.mem_append.1 ht with ht | ht
        · exact mem_take_s hi (h.types t ht)
        · simp only [List.map_cons, List.map_nil, List.mem_singleton] at ht
          subst ht
          exact mem_take_n hi
      · rw [e1, e2]
        constructor
        · rintro ⟨_, h1⟩
          simp at h1
        · rintro ⟨h1, _⟩
          have := h1.2 i hi (by omega)
          rw [hr] at this
          cases this
theorem parts_all (p : Int) (l : List Opt) (i : Nat) (hi : i ≤ l.length) : Parts p l i := by
  induction i with
  | zero => exact ⟨rfl, by simp [awayO], by simp [mendO, changedO], by simp [mendO, changedO], by simp [mendO, changedO], ⟨fun _ => ⟨rightTo_0 p l, by simp⟩, fun _ => ⟨rfl, rfl⟩⟩⟩
  | succ i ih => exact parts_next (by omega) (ih (by omega))
theorem readA_is (p : Int) (l : List Opt) : (readA p l).2 = true ↔ (rightTo p l l.length ∧ (l.map (·.1)).Nodup) := by
  have ht : twice l = false ↔ (l.map (·.1)).Nodup := by simp [twice]
  have ha : allRight p l = true ↔ rightTo p l l.length := ⟨fun h => ⟨Nat.le_refl _, fun j hj _ => by
    unfold allRight at h
    rw [List.all_eq_true] at h
    exact h _ (List.getElem_mem hj)⟩, fun h => allRight_yes h (Nat.le_refl _)⟩
  rw [← ha, ← ht]
  unfold readA
  split
  · rename_i h; exact ⟨fun _ => h, fun _ => rfl⟩
  · rename_i h; exact ⟨fun e => (by cases e), fun e => absurd e h⟩
theorem back_right (p : Int) (l : List Opt) : (readA p l).2 = (decide (((awayO p l l.length).length : Int) = 0) && decide (((changedO p l l.length).length : Int) = 0)) := by
  have h := (parts_all p l l.length (Nat.le_refl _)).none
  rw [List.take_length] at h
  rw [Bool.eq_iff_iff, readA_is, ← h, Bool.and_eq_true, decide_eq_true_eq, decide_eq_true_eq]
  have e (x : List Opt) : ((x.length : Int) = 0) ↔ x = [] := by
    rw [Int.natCast_eq_zero, List.length_eq_zero_iff]
  rw [e, e]
theorem back_mended (p : Int) (l : List Opt) : (readA p (mendO p l l.length ++ changedO p l l.length)).2 = true := by
  have h := parts_all p l l.length (Nat.le_refl _)
  rw [readA_is]
  exact ⟨⟨Nat.le_refl _, fun j hj _ => h.right _ (List.getElem_mem hj)⟩, h.once⟩
theorem back_within (p : Int) (l : List Opt) : within (awayO p l l.length) l = true := by
  have h := (parts_all p l l.length (Nat.le_refl _)).sub
  rw [List.take_length] at h
  exact List.isSublist_iff_sublist.2 h
end Go.Proofs.Ytpgklagjjimbhaa
