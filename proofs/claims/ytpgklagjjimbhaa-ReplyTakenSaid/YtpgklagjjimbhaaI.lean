/- YtpgklagjjimbhaaI: what is put is read as it was, and the other way round. No claim. -/
import Derived.Test.YtpgklagjjimbhaaF
set_option linter.unusedVariables false
set_option linter.unusedSimpArgs false
namespace Go.Proofs.Ytpgklagjjimbhaa
open Go Go.Proofs.Ytpgklagjjimbhaa.V

theorem all_good {l : List Opt} (h : ∀ o ∈ l, bad1 o = 0) : wrongO l = 0 := by
  induction l with
  | nil => rfl
  | cons o r ih =>
    rw [wrongO, if_pos (h o (by simp))]
    exact ih fun x hx => h x (by simp [hx])
theorem putO_cons (o : Opt) (r : List Opt) : putO (o :: r) = put1 o ++ putO r := by simp [putO]

theorem parse_put : ∀ (l : List Opt) (a : Nat), (∀ o ∈ l, bad1 o = 0) → parse a (putO l) = .ok l := by
  intro l
  induction l with
  | nil => intro a _; exact parse_nil a
  | cons o r ih =>
    intro a h
    obtain ⟨c, n, e1, e2, e3, e4⟩ := good_opt (h o (by simp))
    rw [putO_cons, e3]
    show parse a (c :: n :: (o.2 ++ putO r)) = _
    rw [parse, if_neg (by omega), if_neg (by rw [List.length_append]; omega)]
    have h1 : n.toNat - 2 = o.2.length := by omega
    rw [h1, List.drop_left, List.take_left, ih _ fun x hx => h x (by simp [hx])]
    simp only
    rw [← e1]

theorem parse_ok : ∀ (k : Nat) (b : List UInt8) (a : Nat) (l : List Opt), b.length ≤ k → parse a b = .ok l → putO l = b ∧ (∀ o ∈ l, bad1 o = 0) ∧ l.length ≤ b.length := by
  intro k
  induction k using Nat.strongRecOn with
  | _ k ih =>
    intro b a l hk h
    match b, h with
    | [], h =>
      rw [parse_nil] at h
      cases h
      exact ⟨rfl, by simp, by simp⟩
    | [t], h => rw [parse_one] at h; cases h
    | t :: n :: r, h =>
      simp only [List.length_cons] at hk
      have ht := t.toNat_lt
      have hn := n.toNat_lt
      rw [parse] at h
      split at h
      · cases h
      · split at h
        · cases h
        · rename_i h1 h2
          split at h
          · rename_i l' hl'
            cases h
            have hd : (r.drop (n.toNat - 2)).length ≤ k - 1 := by rw [List.length_drop]; omega
            obtain ⟨i1, i2, i3⟩ := ih (k - 1) (by omega) (r.drop (n.toNat - 2)) _ _ hd hl'
            have hlen : (r.take (n.toNat - 2)).length = n.toNat - 2 := by rw [List.length_take]; omega
            refine ⟨?_, ?_, ?_⟩
            · rw [putO_cons, i1]
              unfold put1
              simp only [hlen, Int.toNat_natCast]
              rw [show n.toNat - 2 + 2 = n.toNat by omega]
              simp
            · intro o ho
              rcases List.mem_cons.1 ho with rfl | ho
              · unfold bad1
                rw [if_neg (by simp only; omega), if_neg (by simp only [hlen]; omega)]
              · exact i2 o ho
            · rw [List.length_drop] at i3
              simp only [List.length_cons]
              omega
          · cases h

theorem parse_err : ∀ (k : Nat) (b : List UInt8) (a : Nat) (p e : Nat), b.length ≤ k → parse a b = .error (p, e) → (e = 2 ∨ e = 3) ∧ a ≤ p ∧ p < a + b.length := by
  intro k
  induction k using Nat.strongRecOn with
  | _ k ih =>
    intro b a p e hk h
    match b, h with
    | [], h => rw [parse_nil] at h; cases h
    | [t], h =>
      rw [parse_one] at h
      cases h
      exact ⟨.inl rfl, Nat.le_refl _, by simp⟩
    | t :: n :: r, h =>
      simp only [List.length_cons] at hk ⊢
      rw [parse] at h
      split at h
      · cases h
        exact ⟨.inr rfl, Nat.le_refl _, by omega⟩
      · split at h
        · cases h
          exact ⟨.inl rfl, Nat.le_refl _, by omega⟩
        · rename_i h1 h2
          split at h
          · cases h
          · rename_i x hx
            cases h
            have hd : (r.drop (n.toNat - 2)).length ≤ k - 1 := by rw [List.length_drop]; omega
            obtain ⟨i1, i2, i3⟩ := ih (k - 1) (by omega) (r.drop (n.toNat - 2)) _ _ _ hd hx
            rw [List.length_drop] at i3
            exact ⟨i1, by omega, by omega⟩

/-- What is read: all of it, or a fault. -/
theorem readO_cases (b : List UInt8) : (∃ l, readO b = (l, 0, 0) ∧ putO l = b ∧ wrongO l = 0 ∧ l.length ≤ b.length) ∨ (∃ p e, readO b = ([], p, e) ∧ (e = 2 ∨ e = 3) ∧ p < b.length) := by
  unfold readO
  cases h : parse 0 b with
  | ok l =>
    obtain ⟨h1, h2, h3⟩ := parse_ok _ b 0 l (Nat.le_refl _) h
    exact .inl ⟨l, rfl, h1, all_good h2, h3⟩
  | error q =>
    obtain ⟨p, e⟩ := q
    obtain ⟨h1, _, h2⟩ := parse_err _ b 0 p e (Nat.le_refl _) h
    exact .inr ⟨p, e, rfl, h1, by omega⟩
theorem readO_len (b : List UInt8) : (readO b).1.length ≤ b.length := by
  rcases readO_cases b with ⟨l, h, _, _, h1⟩ | ⟨p, e, h, _⟩
  · rw [h]; exact h1
  · rw [h]; exact Nat.zero_le _
theorem readO_put {l : List Opt} (h : wrongO l = 0) : readO (putO l) = (l, 0, 0) := by
  unfold readO
  rw [parse_put l 0 (good_all h)]
  rfl
theorem putO_inj {l k : List Opt} (hl : wrongO l = 0) (hk : wrongO k = 0) (h : putO l = putO k) : l = k := by
  have h1 := readO_put hl
  rw [h, readO_put hk] at h1
  exact (congrArg (·.1) h1).symm
theorem putO_beq {l k : List Opt} (hl : wrongO l = 0) (hk : wrongO k = 0) : (putO l == putO k) = (l == k) := by
  by_cases h : l = k
  · subst h; simp
  · have : putO l ≠ putO k := fun e => h (putO_inj hl hk e)
    rw [beq_eq_false_iff_ne.2 this, beq_eq_false_iff_ne.2 h]
theorem readO_data (b : List UInt8) : ∀ o ∈ (readO b).1, o.2.length ≤ 253 := by
  rcases readO_cases b with ⟨l, h, _, hw, h1⟩ | ⟨p, e, h, _⟩
  · rw [h]
    intro o ho
    obtain ⟨_, _, _, _, _, h2⟩ := good_opt (good_all hw o ho)
    exact h2
  · rw [h]; intro o ho; cases ho
end Go.Proofs.Ytpgklagjjimbhaa
