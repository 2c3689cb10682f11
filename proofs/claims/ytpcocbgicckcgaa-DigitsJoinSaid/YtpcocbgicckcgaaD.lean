/- YtpcocbgicckcgaaD: digits, as plain data. No claim. -/
import Derived.Test.YtpcocbgicckcgaaB
set_option linter.unusedVariables false
set_option linter.unusedSimpArgs false
set_option maxRecDepth 100000
namespace Go.Proofs.Ytpcocbgicckcgaa
open Go Go.Proofs.Ytpcocbgicckcgaa.V

/-- A byte's number; 16: it is none. -/
def dig (c : UInt8) : Nat := if 48 ≤ c.toNat ∧ c.toNat ≤ 57 then c.toNat - 48 else if 97 ≤ c.toNat ∧ c.toNat ≤ 102 then c.toNat - 87 else 16

theorem dig_le (c : UInt8) : dig c ≤ 16 := by unfold dig; split <;> (try split) <;> omega
theorem digitOf_dig (c : UInt8) : digitOf (c.toNat : Int) = if dig c < 16 then (dig c : Int) else -1 := by
  have h : dig c = if 48 ≤ c.toNat ∧ c.toNat ≤ 57 then c.toNat - 48 else if 97 ≤ c.toNat ∧ c.toNat ≤ 102 then c.toNat - 87 else 16 := rfl
  unfold digitOf
  split at h
  · rw [if_pos (by omega), if_pos (by omega)]; omega
  · split at h
    · rw [if_neg (by omega), if_pos (by omega), if_pos (by omega)]; omega
    · rw [if_neg (by omega), if_neg (by omega), if_neg (by omega)]
theorem digitOf_high {r : Int} (h : 128 ≤ r) : digitOf r = -1 := by
  unfold digitOf
  rw [if_neg (by omega), if_neg (by omega)]
theorem dig_sign {n : Nat} (h : n < 16) : dig (sign n) = n := by
  have hs := sign_nat h
  unfold dig
  split at hs
  · rw [if_pos (by omega)]; omega
  · rw [if_neg (by omega), if_pos (by omega)]; omega
theorem sign_dig {c : UInt8} (h : dig c < 16) : sign (dig c) = c := by
  have hs := sign_nat h
  apply UInt8.toNat_inj.1
  rw [hs]
  unfold dig at h ⊢
  split
  · rename_i h1; rw [if_pos h1] at *; split <;> omega
  · rename_i h1; rw [if_neg h1] at *
    split
    · rename_i h2; rw [if_pos h2] at *; split <;> omega
    · rename_i h2; rw [if_neg h2] at *; omega
theorem dig_high {c : UInt8} (h : 128 ≤ c.toNat) : dig c = 16 := by
  unfold dig
  rw [if_neg (by omega), if_neg (by omega)]

/-- A text as a number's digits. -/
def val (b : Nat) (s : List UInt8) : Nat := s.foldl (fun a c => a * b + dig c) 0
theorem val_nil (b : Nat) : val b [] = 0 := rfl
theorem val_snoc (b : Nat) (s : List UInt8) (c : UInt8) : val b (s ++ [c]) = val b s * b + dig c := by simp [val]
theorem fold_le (b : Nat) (hb : 1 ≤ b) : ∀ (t : List UInt8) (a : Nat), a ≤ t.foldl (fun a c => a * b + dig c) a := by
  intro t
  induction t with
  | nil => intro a; exact Nat.le_refl a
  | cons c r ih =>
    intro a
    refine Nat.le_trans ?_ (ih _)
    have := Nat.le_mul_of_pos_right a hb
    show a ≤ a * b + dig c
    omega
theorem val_append_le (b : Nat) (hb : 1 ≤ b) (s t : List UInt8) : val b s ≤ val b (s ++ t) := by
  unfold val
  rw [List.foldl_append]
  exact fold_le b hb t _

def good (b : Nat) (s : List UInt8) : Prop := s ≠ [] ∧ (∀ c ∈ s, dig c < b) ∧ (1 < s.length → dig (s.headD 0) ≠ 0)

theorem digs_ne {b : Nat} (n : Nat) : digs b n ≠ [] := by
  rw [digs]
  split <;> simp
theorem val_digs {b : Nat} (hb : 2 ≤ b) (hb' : b ≤ 16) : ∀ (n : Nat), val b (digs b n) = n := by
  intro n
  induction n using Nat.strongRecOn with
  | _ n ih =>
    have hm : n % b < b := Nat.mod_lt _ (by omega)
    by_cases hc : n < b
    · rw [digs_lt hc]
      show 0 * b + dig (sign n) = n
      rw [dig_sign (by omega)]
      omega
    · rw [digs_ge hb (by omega), val_snoc, ih _ (Nat.div_lt_self (by omega) (by omega)), dig_sign (by omega)]
      exact Nat.div_add_mod' n b
theorem dig_digs {b : Nat} (hb : 2 ≤ b) (hb' : b ≤ 16) : ∀ (n : Nat), ∀ c ∈ digs b n, dig c < b := by
  intro n
  induction n using Nat.strongRecOn with
  | _ n ih =>
    have hm : n % b < b := Nat.mod_lt _ (by omega)
    intro c hc
    by_cases hlt : n < b
    · rw [digs_lt hlt, List.mem_singleton] at hc
      rw [hc, dig_sign (by omega)]
      exact hlt
    · rw [digs_ge hb (by omega), List.mem_append, List.mem_singleton] at hc
      rcases hc with hc | hc
      · exact ih _ (Nat.div_lt_self (by omega) (by omega)) c hc
      · rw [hc, dig_sign (by omega)]
        exact hm
theorem head_digs {b : Nat} (hb : 2 ≤ b) (hb' : b ≤ 16) : ∀ (n : Nat), 0 < n → dig ((digs b n).headD 0) ≠ 0 := by
  intro n
  induction n using Nat.strongRecOn with
  | _ n ih =>
    intro hn
    by_cases hlt : n < b
    · rw [digs_lt hlt]
      show dig (sign n) ≠ 0
      rw [dig_sign (by omega)]
      omega
    · rw [digs_ge hb (by omega)]
      have h1 := ih _ (Nat.div_lt_self (by omega) (by omega)) (Nat.div_pos (show b ≤ n by omega) (by omega))
      have h2 := digs_ne (b := b) (n / b)
      cases he : digs b (n / b) with
      | nil => exact absurd he h2
      | cons x r =>
        rw [he] at h1
        exact h1
theorem good_digs {b : Nat} (hb : 2 ≤ b) (hb' : b ≤ 16) (n : Nat) : good b (digs b n) := by
  refine ⟨digs_ne n, dig_digs hb hb' n, fun h => ?_⟩
  rcases Nat.eq_zero_or_pos n with rfl | hn
  · rw [digs_lt (by omega)] at h
    simp at h
  · exact head_digs hb hb' n hn

theorem good_init {b : Nat} {s : List UInt8} {c : UInt8} (hs : s ≠ []) (h : good b (s ++ [c])) : good b s := by
  obtain ⟨h1, h2, h3⟩ := h
  cases s with
  | nil => exact absurd rfl hs
  | cons x r =>
    refine ⟨by simp, fun c' hc => h2 c' (List.mem_append_left _ hc), fun h => ?_⟩
    exact h3 (by simp)
theorem digs_val {b : Nat} (hb : 2 ≤ b) (hb' : b ≤ 16) : ∀ (k : Nat) (s : List UInt8), s.length = k → good b s → digs b (val b s) = s ∧ (1 < s.length → 0 < val b s) ∧ (dig (s.headD 0) ≠ 0 → 0 < val b s) := by
  intro k
  induction k with
  | zero =>
    intro s h hg
    exact absurd (List.length_eq_zero_iff.1 h) hg.1
  | succ k ih =>
    intro s h hg
    have hne : s ≠ [] := hg.1
    obtain ⟨t, c, rfl⟩ : ∃ t c, s = t ++ [c] := ⟨s.dropLast, s.getLast hne, (List.dropLast_concat_getLast hne).symm⟩
    have hc : dig c < b := hg.2.1 c (by simp)
    rw [val_snoc]
    by_cases ht : t = []
    · subst ht
      rw [val_nil, Nat.zero_mul, Nat.zero_add, digs_lt hc, sign_dig (by omega)]
      refine ⟨rfl, by simp, fun h => ?_⟩
      have : dig c ≠ 0 := h
      omega
    · obtain ⟨i1, i2, i3⟩ := ih t (by simpa using h) (good_init ht hg)
      have hp : 0 < val b t := by
        cases t with
        | nil => exact absurd rfl ht
        | cons x r =>
          apply i3
          exact hg.2.2 (by simp)
      have hge : b ≤ val b t * b + dig c := by
        have := Nat.le_mul_of_pos_left b hp
        omega
      rw [digs_ge hb hge, Nat.mul_comm, Nat.mul_add_div (by omega), Nat.div_eq_of_lt hc, Nat.add_zero, i1, Nat.mul_add_mod, Nat.mod_eq_of_lt hc, sign_dig (by omega)]
      exact ⟨rfl, fun _ => by rw [Nat.mul_comm]; omega, fun _ => by rw [Nat.mul_comm]; omega⟩

open Classical in
/-- The number whose digits a text has. -/
noncomputable def readN (b : Nat) (s : List UInt8) : Option Nat := if good b s ∧ val b s < 18446744073709551616 then some (val b s) else none

theorem readN_some {b : Nat} {s : List UInt8} (h : good b s) (h' : val b s < 18446744073709551616) : readN b s = some (val b s) := if_pos ⟨h, h'⟩
theorem readN_none {b : Nat} {s : List UInt8} (h : ¬ (good b s ∧ val b s < 18446744073709551616)) : readN b s = none := if_neg h
theorem readN_digs {b n : Nat} (hb : 2 ≤ b) (hb' : b ≤ 16) (hn : n < 18446744073709551616) : readN b (digs b n) = some n := by
  have := readN_some (good_digs hb hb' n) (by rw [val_digs hb hb']; exact hn)
  rw [this, val_digs hb hb']
theorem digs_readN {b n : Nat} {s : List UInt8} (hb : 2 ≤ b) (hb' : b ≤ 16) (h : readN b s = some n) : digs b n = s ∧ n < 18446744073709551616 := by
  unfold readN at h
  split at h
  · rename_i hg
    cases h
    exact ⟨(digs_val hb hb' _ s rfl hg.1).1, hg.2⟩
  · cases h
theorem digs_inj {b n m : Nat} (hb : 2 ≤ b) (hb' : b ≤ 16) (h : digs b n = digs b m) : n = m := by
  rw [← val_digs hb hb' n, h, val_digs hb hb']

/-! ### runes -/
theorem get_at {s : List UInt8} {k : Nat} (h : k < s.length) : (ByteArray.mk s.toArray).get! k = s[k] := by
  simp [ByteArray.get!, h]
theorem dec_low {s : List UInt8} {pos : Nat} (h : pos < s.length) (hc : s[pos].toNat < 128) : decd s pos = (s[pos].toNat, 1) := by
  have hg := get_at h
  unfold decd Utf8.decode
  simp only [Nat.add_zero, hg]
  rw [if_pos hc]
theorem dec_high {s : List UInt8} {pos : Nat} (h : pos < s.length) (hc : 128 ≤ s[pos].toNat) : 128 ≤ (decd s pos).1 ∧ (decd s pos).1 ≤ 1114111 := by
  have hg := get_at h
  have h0 : s[pos].toNat < 256 := s[pos].toNat_lt
  have hb : ∀ k, ((ByteArray.mk s.toArray).get! (pos + k)).toNat < 256 := fun k => ((ByteArray.mk s.toArray).get! (pos + k)).toNat_lt
  have h1 := hb 1
  have h2 := hb 2
  have h3 := hb 3
  unfold decd Utf8.decode
  simp only [Nat.add_zero, hg]
  generalize ((ByteArray.mk s.toArray).get! (pos + 1)).toNat = x1 at *
  generalize ((ByteArray.mk s.toArray).get! (pos + 2)).toNat = x2 at *
  generalize ((ByteArray.mk s.toArray).get! (pos + 3)).toNat = x3 at *
  generalize s[pos].toNat = x0 at *
  generalize (ByteArray.mk s.toArray).size = z
  rw [if_neg (by omega)]
  repeat' split
  all_goals simp_all [Utf8.runeError, Utf8.valid]
  all_goals omega
end Go.Proofs.Ytpcocbgicckcgaa
