/- CellsParts: for every two counts, every picks, every cut and every step the law answers true; no condition. -/
import Derived.Test.YticdhmcbooabaaaZA
import Derived.Test.YticdhmcbooabaaaRows
import Derived.Test.YticdhmcbooabaaaY
import Derived.WalkKit
import Derived.ProofKit
import Derived.OpenShut
import Derived.ShutString
import Derived.ChangeOld
import Derived.Below
import Derived.SizedLaws
set_option linter.unusedVariables false
set_option maxRecDepth 100000
namespace Go.Proofs.Yticdhmcbooabaaa.cellsParts
open Go Go.Proofs.Yticdhmcbooabaaa.V
open Go.ChangeShapes Go.WideShapes Go.ChangeAt Go.RowKit

theorem law : ∀ xs : List PV, All2 (WfV Try.prog 6) Try.f5.params.toList xs → ∃ n m S1, callF Try.prog env n 5 (xs.map (.pure false)) [] = some (.pure m (.bool true), S1) := by
  intro xs h
  have h' : All2 (WfV Try.prog 6) [5, 5, 22, 5, 43] xs := h
  cases h' with
  | cons h1 t1 =>
    cases t1 with
    | cons h2 t2 =>
      cases t2 with
      | cons h3 t3 =>
        cases t3 with
        | cons h4 t4 =>
          cases t4 with
          | cons h5 t5 =>
            cases t5
            obtain ⟨a, rfl⟩ := wfv_u8 h1
            obtain ⟨b, rfl⟩ := wfv_u8 h2
            obtain ⟨q, rfl, hq⟩ := wfv_picks h3
            obtain ⟨c, rfl⟩ := wfv_u8 h4
            obtain ⟨s, e, rfl⟩ := wfv_step h5
            obtain ⟨n, hn⟩ := cellsParts_runs a b q c s e hq
            exact ⟨n, _, _, hn⟩

set_option maxRecDepth 100000 in
theorem lifted (os : Os) (started : os.Started) (H : Type) (enc : TypeId × Value → H) :
    ReturnsInHanded {} Try.checked os 5 .any (Rows.cellsPartsSpec.pre6 enc Try.prog Try.f5 Rows.cellsPartsRow.domain false) (Rows.cellsPartsSpec.post enc Try.prog Try.f5 false true false false) := by
  refine returnsInHanded_of_change_sized (C := Try.checked) own started (by kernel_rfl) Try.func5
    (ChangeSpec.witness6 (enc := enc) (C := Try.checked) false ⟨#[], #[.int .u8 0, .int .u8 0, .slice none 0 0, .int .u8 0, .agg #[.int .i64 0, .int .i64 0]], []⟩ 8 (by kernel_rfl) (by kernel_rfl) (by kernel_rfl) (by kernel_rfl)) ?_
  intro W base args ds gs before hval hW hcnd hsz _
  refine law_contract (N := 6) (rt := 4) envAll (fun _ => rfl) laidOut rfl rfl Try.underlying4 (by kernel_rfl) (by kernel_rfl) ?_ law W base args ds gs before hval hW hsz
  intro ds hl
  match ds, hl with
  | [d0, d1, d2, d3, d4], _ => rfl

theorem j0 : Rows.cellsPartsRow.wf (OpenSpec.ofChange Rows.cellsPartsSpec) = true := by kernel_rfl
theorem j3 : Try.f5.params.all (Try.prog.readableRec ·) = true := by kernel_rfl
theorem j4 : namedTie Try.prog Rows.cellsPartsRow.named Rows.cellsPartsSpec.vars = true := by kernel_rfl
theorem j9 : (Rows.cellsPartsRow.inPlace == Try.prog.inPlace 5) = true := by kernel_rfl
theorem j10 : (Rows.cellsPartsRow.unfollowed == Try.prog.unfollowed 5) = true := by kernel_rfl
theorem j11 : (Rows.cellsPartsRow.recurses == Try.prog.recurses 5) = true := by kernel_rfl
theorem j12 : (Rows.cellsPartsRow.named == Try.prog.varsNamed 5) = true := by kernel_rfl
theorem hfn : Try.pinned.checked.prog.funcNamed Rows.cellsPartsRow.func = some 5 := by kernel_rfl
theorem joined : joinedFacts Try.pinned.checked.prog 5 Try.f5 Rows.cellsPartsSpec Rows.cellsPartsRow = true := by
  show joinedFacts Try.prog 5 Try.f5 Rows.cellsPartsSpec Rows.cellsPartsRow = true
  unfold joinedFacts
  simp only [Bool.and_eq_true]
  exact ⟨⟨⟨⟨⟨⟨⟨⟨⟨⟨⟨⟨⟨⟨⟨⟨⟨⟨⟨⟨⟨⟨⟨⟨⟨⟨⟨⟨⟨⟨⟨j0, y_laid⟩, y_maps⟩, j3⟩, j4⟩, by kernel_rfl⟩, y_stops⟩, by kernel_rfl⟩, y_knobs⟩, j9⟩, j10⟩, j11⟩, j12⟩, by kernel_rfl⟩, by kernel_rfl⟩, by kernel_rfl⟩, by kernel_rfl⟩, by kernel_rfl⟩, by kernel_rfl⟩, by kernel_rfl⟩, by kernel_rfl⟩, by kernel_rfl⟩, by rw [y_plain]; kernel_rfl⟩, by kernel_rfl⟩, y_heard⟩, y_enter⟩, by rw [y_lifts]; kernel_rfl⟩, by rw [y_make]; kernel_rfl⟩, by kernel_rfl⟩, by kernel_rfl⟩, by kernel_rfl⟩, by kernel_rfl⟩

theorem over : Rows.cellsPartsRow.holds Try.pinned (OpenSpec.ofChange Rows.cellsPartsSpec) :=
  OpenClaim.holds_of_wide 5 Try.f5 rfl rfl rfl rfl rfl rfl rfl ⟨rfl, rfl, rfl, rfl, rfl⟩ rfl rfl rfl rfl rfl hfn Try.func5 joined
    (of_decide_eq_true (by kernel_rfl)) (by unfold Func.isWrapper; first | (rw [if_pos (by decide +kernel)]; kernel_rfl) | (rw [if_neg (by decide +kernel)]; exact ⟨rfl, rfl⟩))
    (fun os started H enc _ => lifted os started H enc)
end Go.Proofs.Yticdhmcbooabaaa.cellsParts
namespace Go.Proofs.Yticdhmcbooabaaa
theorem cellsParts_holds : Rows.CellsPartsSaid := cellsParts.over
#print axioms cellsParts_holds
end Go.Proofs.Yticdhmcbooabaaa
