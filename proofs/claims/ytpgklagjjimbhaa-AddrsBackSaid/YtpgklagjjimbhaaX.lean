/- YtpgklagjjimbhaaX: what an argument of a law is. No claim. -/
import Derived.Test.YtpgklagjjimbhaaA
set_option linter.unusedVariables false
set_option linter.unusedSimpArgs false
set_option maxRecDepth 100000
namespace Go.Proofs.Ytpgklagjjimbhaa
open Go Go.Proofs.Ytpgklagjjimbhaa.V

theorem wfc_i64 {n : Nat} {cs : List PV} (h : WfC Try.prog (n + 1) 3 cs) : ∃ i : Int, cs = [.int .i64 i] ∧ -9223372036854775808 ≤ i ∧ i < 9223372036854775808 := by
  simp only [WfC, Try.underlying3] at h
  obtain ⟨i, h2, h3⟩ := h
  have hb : -9223372036854775808 ≤ i ∧ i ≤ 9223372036854775807 := by
    simpa [Lit.wf, IntKind.min, IntKind.max, IntKind.bits, IntKind.signed] using h3
  exact ⟨i, h2, by omega, by omega⟩
theorem wfc_u64 {n : Nat} {cs : List PV} (h : WfC Try.prog (n + 1) 44 cs) : ∃ i : Nat, cs = [.int .u64 i] ∧ i < 18446744073709551616 := by
  simp only [WfC, Try.underlying44] at h
  obtain ⟨i, h2, h3⟩ := h
  have hb : 0 ≤ i ∧ i ≤ 18446744073709551615 := by
    simpa [Lit.wf, IntKind.min, IntKind.max, IntKind.bits, IntKind.signed] using h3
  exact ⟨i.toNat, by rw [h2]; congr 2; omega, by omega⟩
theorem wfc_u16 {n : Nat} {cs : List PV} (h : WfC Try.prog (n + 1) 59 cs) : ∃ i : Nat, cs = [.int .u16 i] ∧ i < 65536 := by
  simp only [WfC, Try.underlying59] at h
  obtain ⟨i, h2, h3⟩ := h
  have hb : 0 ≤ i ∧ i ≤ 65535 := by
    simpa [Lit.wf, IntKind.min, IntKind.max, IntKind.bits, IntKind.signed] using h3
  exact ⟨i.toNat, by rw [h2]; congr 2; omega, by omega⟩
theorem wfc_u8 {n : Nat} {cs : List PV} (h : WfC Try.prog (n + 1) 5 cs) : ∃ c : UInt8, cs = [.int .u8 c.toNat] := by
  simp only [WfC, Try.underlying5] at h
  obtain ⟨i, h2, h3⟩ := h
  have hb : 0 ≤ i ∧ i ≤ 255 := by
    simpa [Lit.wf, IntKind.min, IntKind.max, IntKind.bits, IntKind.signed] using h3
  refine ⟨UInt8.ofNat i.toNat, ?_⟩
  rw [h2, UInt8.toNat_ofNat_of_lt' (by show _ < 256; omega)]
  congr 2
  omega
theorem wfc_bool {n : Nat} {cs : List PV} (h : WfC Try.prog (n + 1) 4 cs) : ∃ b : Bool, cs = [.bool b] := by
  simpa only [WfC, Try.underlying4] using h
theorem wfc_str {n : Nat} {cs : List PV} (h : WfC Try.prog (n + 1) 9 cs) : ∃ s, cs = [.str s] ∧ s.length ≤ 140737488351232 := by
  simpa only [WfC, Try.underlying9] using h

theorem one_cell {x y : PV} (ha : x.isAgg = false) (h : x.cells = [y]) : x = y := by
  cases x with
  | agg cs => cases ha
  | _ =>
    simp only [PV.cells, List.cons.injEq, and_true] at h
    exact h
theorem wfv_i64 {n : Nat} {x : PV} (h : WfV Try.prog (n + 1) 3 x) : ∃ i : Int, x = .int .i64 i ∧ -9223372036854775808 ≤ i ∧ i < 9223372036854775808 := by
  obtain ⟨h1, h2⟩ := h
  obtain ⟨i, e, hi⟩ := wfc_i64 h2
  exact ⟨i, one_cell (by rw [h1, agg3]) e, hi⟩
theorem wfv_u64 {n : Nat} {x : PV} (h : WfV Try.prog (n + 1) 44 x) : ∃ i : Nat, x = .int .u64 i ∧ i < 18446744073709551616 := by
  obtain ⟨h1, h2⟩ := h
  obtain ⟨i, e, hi⟩ := wfc_u64 h2
  exact ⟨i, one_cell (by rw [h1, agg44]) e, hi⟩
theorem wfv_u16 {n : Nat} {x : PV} (h : WfV Try.prog (n + 1) 59 x) : ∃ i : Nat, x = .int .u16 i ∧ i < 65536 := by
  obtain ⟨h1, h2⟩ := h
  obtain ⟨i, e, hi⟩ := wfc_u16 h2
  exact ⟨i, one_cell (by rw [h1, agg59]) e, hi⟩
theorem wfv_u8 {n : Nat} {x : PV} (h : WfV Try.prog (n + 1) 5 x) : ∃ c : UInt8, x = .int .u8 c.toNat := by
  obtain ⟨h1, h2⟩ := h
  obtain ⟨i, e⟩ := wfc_u8 h2
  exact ⟨i, one_cell (by rw [h1, agg5]) e⟩
theorem bytes_of {xs : List PV} (h : ∀ x ∈ xs, ∃ c : UInt8, x = .int .u8 c.toNat) : ∃ b, xs = bytesOf b := by
  induction xs with
  | nil => exact ⟨[], rfl⟩
  | cons x r ih =>
    obtain ⟨c, rfl⟩ := h x (List.mem_cons_self ..)
    obtain ⟨b, rfl⟩ := ih fun y hy => h y (List.mem_cons_of_mem _ hy)
    exact ⟨c :: b, rfl⟩
theorem wfc_bytes {n : Nat} {cs : List PV} (h : WfC Try.prog (n + 1 + 1) 25 cs) : ∃ b, cs = [.sl (bytesOf b)] ∧ b.length ≤ 140737488351232 := by
  unfold WfC at h
  simp only [Try.underlying25] at h
  obtain ⟨xs, h2, h3, h4⟩ := h
  obtain ⟨b, rfl⟩ := bytes_of fun y hy => wfv_u8 (n := n) ⟨(h4 y hy).1, (h4 y hy).2⟩
  rw [bytes5, bytesOf_length] at h3
  exact ⟨b, h2, by omega⟩
theorem wfv_bytes {n : Nat} {x : PV} (h : WfV Try.prog (n + 1 + 1) 25 x) : ∃ b, x = .sl (bytesOf b) ∧ b.length ≤ 140737488351232 := by
  obtain ⟨h1, h2⟩ := h
  obtain ⟨b, e, hb⟩ := wfc_bytes h2
  exact ⟨b, one_cell (by rw [h1, agg25]) e, hb⟩
theorem agg_cells {x : PV} {cs : List PV} (ha : x.isAgg = true) (h : x.cells = cs) : x = .agg cs := by
  cases x with
  | agg c => rw [← h]; rfl
  | _ => cases ha
theorem wfv_opt {n : Nat} {x : PV} (h : WfV Try.prog (n + 1 + 1 + 1) 42 x) : ∃ o : Opt, x = optV o ∧ -9223372036854775808 ≤ o.1 ∧ o.1 < 9223372036854775808 ∧ o.2.length ≤ 140737488351232 := by
  obtain ⟨h1, h2⟩ := h
  unfold WfC at h2
  rw [Try.underlying42] at h2
  have h3 : seqW (WfC Try.prog (n + 1 + 1)) [3, 25] x.cells := h2
  obtain ⟨a, b, e1, h4, c, d, e2, h5, e3⟩ := h3
  obtain ⟨i, rfl, hi, hi'⟩ := wfc_i64 h4
  obtain ⟨s, rfl, hs⟩ := wfc_bytes h5
  have e3' : d = [] := e3
  subst e3' e2
  exact ⟨(i, s), agg_cells (by rw [h1, agg42]) e1, hi, hi', hs⟩
theorem opts_of {xs : List PV} (h : ∀ x ∈ xs, ∃ o : Opt, x = optV o ∧ -9223372036854775808 ≤ o.1 ∧ o.1 < 9223372036854775808 ∧ o.2.length ≤ 140737488351232) : ∃ l, xs = optsV l ∧ ∀ o ∈ l, -9223372036854775808 ≤ o.1 ∧ o.1 < 9223372036854775808 ∧ o.2.length ≤ 140737488351232 := by
  induction xs with
  | nil => exact ⟨[], rfl, by simp⟩
  | cons x r ih =>
    obtain ⟨o, rfl, ho⟩ := h x (List.mem_cons_self ..)
    obtain ⟨l, rfl, hl⟩ := ih fun y hy => h y (List.mem_cons_of_mem _ hy)
    exact ⟨o :: l, rfl, fun p hp => by
      rcases List.mem_cons.1 hp with rfl | hp
      · exact ho
      · exact hl p hp⟩
theorem wfv_opts {n : Nat} {x : PV} (h : WfV Try.prog (n + 1 + 1 + 1 + 1) 22 x) : ∃ l, x = .sl (optsV l) ∧ ∀ o ∈ l, -9223372036854775808 ≤ o.1 ∧ o.1 < 9223372036854775808 ∧ o.2.length ≤ 140737488351232 := by
  obtain ⟨h1, h2⟩ := h
  unfold WfC at h2
  simp only [Try.underlying22] at h2
  obtain ⟨xs, h2, h3, h4⟩ := h2
  obtain ⟨l, rfl, hl⟩ := opts_of fun y hy => wfv_opt (n := n) ⟨(h4 y hy).1, (h4 y hy).2⟩
  exact ⟨l, one_cell (by rw [h1, agg22]) h2, hl⟩
end Go.Proofs.Ytpgklagjjimbhaa
