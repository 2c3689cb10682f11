/- YtpgklagjjimbhaaAP: addresses: the plain law of the list that tells them. No claim. -/
import Derived.Test.YtpgklagjjimbhaaAM
set_option linter.unusedVariables false
set_option linter.unusedSimpArgs false
set_option maxRecDepth 100000
namespace Go.Proofs.Ytpgklagjjimbhaa
open Go Go.Proofs.Ytpgklagjjimbhaa.V

def w0 : W4 := ⟨0, 0, 0, 0⟩
def x0 : W8 := ⟨0, 0, 0, 0, 0, 0, 0, 0⟩
theorem w4z_iff (w : W4) : w4z w = true ↔ w = w0 := by
  obtain ⟨a, b, c, d⟩ := w
  have h (x : UInt8) : x.toNat = 0 ↔ x = 0 := ⟨fun h => UInt8.toNat_inj.1 h, fun h => by rw [h]; rfl⟩
  simp [w4z, w0, h]
theorem w8z_iff (w : W8) : w8z w = true ↔ w = x0 := by
  obtain ⟨a, b, c, d, e, f, g, k⟩ := w
  have h (x : UInt8) : x.toNat = 0 ↔ x = 0 := ⟨fun h => UInt8.toNat_inj.1 h, fun h => by rw [h]; rfl⟩
  simp [w8z, x0, h]
theorem mask4 (b : Bool) (w : W4) : ((if b = true then w else w0) = w) ↔ (b = true ∨ w4z w = true) := by
  cases b with
  | true => simp
  | false => rw [w4z_iff]; simp only [Bool.false_eq_true, if_false, false_or]; exact eq_comm
def outI (a : Adr) : List Opt := dnsO a (([] ++ optB a.hasVj 2 [0, 45, UInt8.ofNat a.slots.toNat, if a.vjId then 1 else 0]) ++ optB a.hasIp 3 (l4 a.ip)) 4
def outX (a : Adr) : List Opt := [] ++ optB a.hasId 1 (l8 a.id)
def maskA (a : Adr) : Adr := ⟨a.hasIp, if a.hasIp = true then a.ip else w0, a.hasVj, if a.hasVj = true then ((UInt8.ofNat a.slots.toNat).toNat : Int) else 0, if a.hasVj = true then a.vjId else false, a.h0, a.h1, a.h2, a.h3, if a.h0 = true then a.d0 else w0, if a.h1 = true then a.d1 else w0, if a.h2 = true then a.d2 else w0, if a.h3 = true then a.d3 else w0, false, x0⟩
theorem outI_fold (a : Adr) : foldA 32801 (outI a) = maskA a := by
  obtain ⟨hip, ip, hvj, s, v, h0, h1, h2, h3, d0, d1, d2, d3, hid, idd⟩ := a
  cases hip <;> cases hvj <;> cases v <;> cases h0 <;> cases h1 <;> cases h2 <;> cases h3 <;> rfl
theorem outI_right (a : Adr) : allRight 32801 (outI a) = true := by
  obtain ⟨hip, ip, hvj, s, v, h0, h1, h2, h3, d0, d1, d2, d3, hid, idd⟩ := a
  cases hip <;> cases hvj <;> cases v <;> cases h0 <;> cases h1 <;> cases h2 <;> cases h3 <;> rfl
theorem outI_once (a : Adr) : twice (outI a) = false := by
  obtain ⟨hip, ip, hvj, s, v, h0, h1, h2, h3, d0, d1, d2, d3, hid, idd⟩ := a
  cases hip <;> cases hvj <;> cases v <;> cases h0 <;> cases h1 <;> cases h2 <;> cases h3 <;> rfl
theorem maskA_eq (a : Adr) (s0 : 0 ≤ a.slots) (s1 : a.slots ≤ 255) : adrEq (maskA a) a = mayI a := by
  have es : ((UInt8.ofNat a.slots.toNat).toNat : Int) = a.slots := by
    rw [UInt8.toNat_ofNat_of_lt' (by show _ < 256; omega)]
    omega
  rw [Bool.eq_iff_iff, adrEq_iff]
  obtain ⟨hip, ip, hvj, s, v, h0, h1, h2, h3, d0, d1, d2, d3, hid, idd⟩ := a
  simp only at s0 s1 es
  have n1 : ¬ s < 0 := by omega
  have n2 : ¬ 255 < s := by omega
  have ex : (x0 = idd) ↔ w8z idd = true := by rw [w8z_iff]; exact eq_comm
  simp only [maskA, mayI, Adr.mk.injEq, mask4, es, ex, decide_eq_false n1, decide_eq_false n2]
  cases hvj
  · simp only [Bool.false_eq_true, if_false]
    have hs : (0 : Int) = s ↔ s = 0 := eq_comm
    cases v <;> cases hid <;> cases hip <;> cases h0 <;> cases h1 <;> cases h2 <;> cases h3 <;> simp [hs, and_assoc, and_comm, and_left_comm]
  · simp only [if_true]
    cases v <;> cases hid <;> cases hip <;> cases h0 <;> cases h1 <;> cases h2 <;> cases h3 <;> simp [and_assoc, and_comm, and_left_comm]
theorem zero_not (a : Adr) (h : ¬ (0 ≤ a.slots ∧ a.slots ≤ 255)) : adrEq zeroA a = false ∧ mayI a = false := by
  constructor
  · rw [Bool.eq_false_iff]
    intro e
    rw [adrEq_iff] at e
    apply h
    rw [← e]
    exact ⟨by decide, by decide⟩
  · have : decide (a.slots < 0) = true ∨ decide (255 < a.slots) = true := by
      by_cases h1 : a.slots < 0
      · exact .inl (decide_eq_true h1)
      · exact .inr (decide_eq_true (by omega))
    rcases this with h1 | h1 <;> simp [mayI, h1]
end Go.Proofs.Ytpgklagjjimbhaa
