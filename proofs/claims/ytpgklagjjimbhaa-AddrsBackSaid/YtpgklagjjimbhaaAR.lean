/- YtpgklagjjimbhaaAR: what addresses are, as an argument. No claim. -/
import Derived.Test.YtpgklagjjimbhaaAB
import Derived.Test.YtpgklagjjimbhaaX
set_option linter.unusedVariables false
set_option linter.unusedSimpArgs false
set_option maxRecDepth 100000
namespace Go.Proofs.Ytpgklagjjimbhaa
open Go Go.Proofs.Ytpgklagjjimbhaa.V

theorem wfc_w4 {n : Nat} {cs : List PV} (h : WfC Try.prog (n + 1 + 1) 70 cs) : ∃ w : W4, cs = [.int .u8 w.a.toNat, .int .u8 w.b.toNat, .int .u8 w.c.toNat, .int .u8 w.d.toNat] := by
  unfold WfC at h
  rw [Try.underlying70] at h
  have h3 : seqW (WfC Try.prog (n + 1)) [5, 5, 5, 5] cs := h
  obtain ⟨a1, b1, e1, g1, a2, b2, e2, g2, a3, b3, e3, g3, a4, b4, e4, g4, e5⟩ := h3
  obtain ⟨x1, rfl⟩ := wfc_u8 g1
  obtain ⟨x2, rfl⟩ := wfc_u8 g2
  obtain ⟨x3, rfl⟩ := wfc_u8 g3
  obtain ⟨x4, rfl⟩ := wfc_u8 g4
  have e5' : b4 = [] := e5
  subst e5' e4 e3 e2
  exact ⟨⟨x1, x2, x3, x4⟩, e1⟩
theorem wfc_w8 {n : Nat} {cs : List PV} (h : WfC Try.prog (n + 1 + 1) 73 cs) : ∃ w : W8, cs = [.int .u8 w.a.toNat, .int .u8 w.b.toNat, .int .u8 w.c.toNat, .int .u8 w.d.toNat, .int .u8 w.e.toNat, .int .u8 w.f.toNat, .int .u8 w.g.toNat, .int .u8 w.h.toNat] := by
  unfold WfC at h
  rw [Try.underlying73] at h
  have h3 : seqW (WfC Try.prog (n + 1)) [5, 5, 5, 5, 5, 5, 5, 5] cs := h
  obtain ⟨a1, b1, e1, g1, a2, b2, e2, g2, a3, b3, e3, g3, a4, b4, e4, g4, a5, b5, e5, g5, a6, b6, e6, g6, a7, b7, e7, g7, a8, b8, e8, g8, e9⟩ := h3
  obtain ⟨x1, rfl⟩ := wfc_u8 g1
  obtain ⟨x2, rfl⟩ := wfc_u8 g2
  obtain ⟨x3, rfl⟩ := wfc_u8 g3
  obtain ⟨x4, rfl⟩ := wfc_u8 g4
  obtain ⟨x5, rfl⟩ := wfc_u8 g5
  obtain ⟨x6, rfl⟩ := wfc_u8 g6
  obtain ⟨x7, rfl⟩ := wfc_u8 g7
  obtain ⟨x8, rfl⟩ := wfc_u8 g8
  have e9' : b8 = [] := e9
  subst e9' e8 e7 e6 e5 e4 e3 e2
  exact ⟨⟨x1, x2, x3, x4, x5, x6, x7, x8⟩, e1⟩
theorem wfc_b4 {n : Nat} {cs : List PV} (h : WfC Try.prog (n + 1 + 1) 71 cs) : ∃ x1 x2 x3 x4 : Bool, cs = [.bool x1, .bool x2, .bool x3, .bool x4] := by
  unfold WfC at h
  rw [Try.underlying71] at h
  have h3 : seqW (WfC Try.prog (n + 1)) [4, 4, 4, 4] cs := h
  obtain ⟨a1, b1, e1, g1, a2, b2, e2, g2, a3, b3, e3, g3, a4, b4, e4, g4, e5⟩ := h3
  obtain ⟨x1, rfl⟩ := wfc_bool g1
  obtain ⟨x2, rfl⟩ := wfc_bool g2
  obtain ⟨x3, rfl⟩ := wfc_bool g3
  obtain ⟨x4, rfl⟩ := wfc_bool g4
  have e5' : b4 = [] := e5
  subst e5' e4 e3 e2
  exact ⟨x1, x2, x3, x4, e1⟩
theorem wfc_d4 {n : Nat} {cs : List PV} (h : WfC Try.prog (n + 1 + 1 + 1) 72 cs) : ∃ x1 x2 x3 x4 : W4, cs = [.int .u8 x1.a.toNat, .int .u8 x1.b.toNat, .int .u8 x1.c.toNat, .int .u8 x1.d.toNat, .int .u8 x2.a.toNat, .int .u8 x2.b.toNat, .int .u8 x2.c.toNat, .int .u8 x2.d.toNat, .int .u8 x3.a.toNat, .int .u8 x3.b.toNat, .int .u8 x3.c.toNat, .int .u8 x3.d.toNat, .int .u8 x4.a.toNat, .int .u8 x4.b.toNat, .int .u8 x4.c.toNat, .int .u8 x4.d.toNat] := by
  unfold WfC at h
  rw [Try.underlying72] at h
  have h3 : seqW (WfC Try.prog (n + 1 + 1)) [70, 70, 70, 70] cs := h
  obtain ⟨a1, b1, e1, g1, a2, b2, e2, g2, a3, b3, e3, g3, a4, b4, e4, g4, e5⟩ := h3
  obtain ⟨x1, rfl⟩ := wfc_w4 g1
  obtain ⟨x2, rfl⟩ := wfc_w4 g2
  obtain ⟨x3, rfl⟩ := wfc_w4 g3
  obtain ⟨x4, rfl⟩ := wfc_w4 g4
  have e5' : b4 = [] := e5
  subst e5' e4 e3 e2
  exact ⟨x1, x2, x3, x4, e1⟩
theorem wfv_adr {n : Nat} {x : PV} (h : WfV Try.prog (n + 1 + 1 + 1 + 1) 75 x) : ∃ a : Adr, x = adrV a := by
  obtain ⟨h1, h2⟩ := h
  unfold WfC at h2
  rw [Try.underlying75] at h2
  have h3 : seqW (WfC Try.prog (n + 1 + 1 + 1)) [4, 70, 4, 3, 4, 71, 72, 4, 73] x.cells := h2
  obtain ⟨a1, b1, e1, g1, a2, b2, e2, g2, a3, b3, e3, g3, a4, b4, e4, g4, a5, b5, e5, g5, a6, b6, e6, g6, a7, b7, e7, g7, a8, b8, e8, g8, a9, b9, e9, g9, e10⟩ := h3
  obtain ⟨x1, rfl⟩ := wfc_bool g1
  obtain ⟨x2, rfl⟩ := wfc_w4 g2
  obtain ⟨x3, rfl⟩ := wfc_bool g3
  obtain ⟨x4, rfl, _⟩ := wfc_i64 g4
  obtain ⟨x5, rfl⟩ := wfc_bool g5
  obtain ⟨y1, y2, y3, y4, rfl⟩ := wfc_b4 g6
  obtain ⟨z1, z2, z3, z4, rfl⟩ := wfc_d4 g7
  obtain ⟨x8, rfl⟩ := wfc_bool g8
  obtain ⟨x9, rfl⟩ := wfc_w8 g9
  have e10' : b9 = [] := e10
  subst e10' e9 e8 e7 e6 e5 e4 e3 e2
  exact ⟨⟨x1, x2, x3, x4, x5, y1, y2, y3, y4, z1, z2, z3, z4, x8, x9⟩, agg_cells (by rw [h1, agg75]) e1⟩
end Go.Proofs.Ytpgklagjjimbhaa
