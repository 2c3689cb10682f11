/- YtkjoolmkgpmlfaaDoorZK: the rows' variable, out of the list of what is laid. No claim. -/
import Derived.Test.YtkjoolmkgpmlfaaDoorZE
import Derived.MakeChecks
import Derived.LaidLaws
set_option linter.unusedVariables false
set_option linter.unusedSimpArgs false
set_option maxRecDepth 100000
namespace Go.Proofs.YtkjoolmkgpmlfaaDoorZ
open Go.Proofs.YtkjoolmkgpmlfaaDoor
open Go Go.Proofs.YtkjoolmkgpmlfaaDoorZ.V
theorem laid_eq : (Rows.laid_umpire_umpireref19_rows : DataW Unit) = rowsD rowsB := by rfl
theorem glob_ok {W : World} (h : laidMetH Tryd.prog [("umpire/umpireref19.rows", Rows.laid_umpire_umpireref19_rows)] W) : GlobOk env (Olds W) W.heap.size W := by
  rw [MakeChecks.laidMetH_plain _ _ _ (by kernel_rfl), laid_eq] at h
  obtain ⟨v, h1, h2, h3⟩ := glob_rows (g := 0) (t := 49) (t2 := 48) (e := 9) h (List.mem_singleton.2 rfl) (by kernel_rfl) (by kernel_rfl) Tryd.underlying49 cells48 Tryd.underlying48 Tryd.underlying9 cells9
  refine ⟨fun g cs hg => ?_⟩
  by_cases hg0 : g = 0
  · subst hg0
    have hcs : cs = [.sl (rowsB.map fun r => .sl (r.map .str))] := (Option.some.inj (show some _ = some cs from hg)).symm
    subst hcs
    refine ⟨fun c hc => ?_, fun i c hi => ?_⟩
    · rw [List.mem_singleton.1 hc]
      rfl
    · have hi0 : i = 0 := by
        have := (List.getElem?_eq_some_iff.1 hi).1
        simp at this
        exact this
      subst hi0
      obtain rfl : _ = c := Option.some.inj hi
      exact ⟨v, h1, h2, h3⟩
  · exfalso
    have : env.glob g = none := by show (if g = 0 then _ else none) = none; rw [if_neg hg0]
    rw [this] at hg
    cases hg
end Go.Proofs.YtkjoolmkgpmlfaaDoorZ
