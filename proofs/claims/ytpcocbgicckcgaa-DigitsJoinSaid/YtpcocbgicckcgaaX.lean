/- YtpcocbgicckcgaaX: what an argument of a law is. No claim. -/
import Derived.Test.YtpcocbgicckcgaaU
set_option linter.unusedVariables false
set_option linter.unusedSimpArgs false
namespace Go.Proofs.Ytpcocbgicckcgaa
open Go Go.Proofs.Ytpcocbgicckcgaa.V

theorem wfv_str {n : Nat} {x : PV} (h : WfV Try.prog (n + 1) 9 x) : ∃ s, x = .str s ∧ s.length ≤ 140737488351232 := by
  obtain ⟨h1, h2⟩ := h
  simp only [WfC, Try.underlying9] at h2
  obtain ⟨s, h2, h3⟩ := h2
  rw [agg9] at h1
  cases x with
  | agg cs => cases h1
  | _ =>
    simp only [PV.cells, List.cons.injEq, and_true] at h2
    exact ⟨s, h2, h3⟩


theorem wfv_u64 {n : Nat} {x : PV} (h : WfV Try.prog (n + 1) 22 x) : ∃ i : Nat, x = .int .u64 i ∧ i < 18446744073709551616 := by
  obtain ⟨h1, h2⟩ := h
  simp only [WfC, Try.underlying22] at h2
  obtain ⟨i, h2, h3⟩ := h2
  rw [agg22] at h1
  have hb : 0 ≤ i ∧ i ≤ 18446744073709551615 := by
    simpa [Lit.wf, IntKind.min, IntKind.max, IntKind.bits, IntKind.signed] using h3
  cases x with
  | agg cs => cases h1
  | _ =>
    simp only [PV.cells, List.cons.injEq, and_true] at h2
    exact ⟨i.toNat, by rw [h2]; congr 1; omega, by omega⟩
theorem wfv_u8 {n : Nat} {x : PV} (h1 : x.isAgg = isAggT Try.prog 5) (h2 : WfC Try.prog (n + 1) 5 x.cells) : ∃ c : UInt8, x = .int .u8 c.toNat := by
  simp only [WfC, Try.underlying5] at h2
  obtain ⟨i, h2, h3⟩ := h2
  rw [agg5] at h1
  have hb : 0 ≤ i ∧ i ≤ 255 := by
    simpa [Lit.wf, IntKind.min, IntKind.max, IntKind.bits, IntKind.signed] using h3
  cases x with
  | agg cs => cases h1
  | _ =>
    simp only [PV.cells, List.cons.injEq, and_true] at h2
    refine ⟨UInt8.ofNat i.toNat, ?_⟩
    rw [h2, UInt8.toNat_ofNat_of_lt' (by show _ < 256; omega)]
    congr 1
    omega
theorem bytes_of {xs : List PV} (h : ∀ x ∈ xs, ∃ c : UInt8, x = .int .u8 c.toNat) : ∃ b, xs = bytesOf b := by
  induction xs with
  | nil => exact ⟨[], rfl⟩
  | cons x r ih =>
    obtain ⟨c, rfl⟩ := h x (List.mem_cons_self ..)
    obtain ⟨b, rfl⟩ := ih fun y hy => h y (List.mem_cons_of_mem _ hy)
    exact ⟨c :: b, rfl⟩
theorem wfv_bytes {n : Nat} {x : PV} (h : WfV Try.prog (n + 1 + 1) 23 x) : ∃ b, x = .sl (bytesOf b) := by
  obtain ⟨h1, h2⟩ := h
  unfold WfC at h2
  simp only [Try.underlying23] at h2
  obtain ⟨xs, h2, h3, h4⟩ := h2
  rw [agg23] at h1
  obtain ⟨b, rfl⟩ := bytes_of fun y hy => wfv_u8 (h4 y hy).1 (h4 y hy).2
  cases x with
  | agg cs => cases h1
  | _ =>
    simp only [PV.cells, List.cons.injEq, and_true] at h2
    exact ⟨b, h2⟩
end Go.Proofs.Ytpcocbgicckcgaa
