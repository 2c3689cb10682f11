/- AutoRights: for every automaton and every three numbers the law answers true; no condition. -/
import Derived.Test.YtkjoolmkgpmlfaaA
import Derived.Test.YtkjoolmkgpmlfaaRows
import Derived.Test.YtkjoolmkgpmlfaaY
import Derived.WalkKit
import Derived.ProofKit
import Derived.OpenShut
import Derived.ShutString
import Derived.ChangeOld
import Derived.Below
import Derived.SizedLaws
set_option linter.unusedVariables false
set_option maxRecDepth 100000
namespace Go.Proofs.Ytkjoolmkgpmlfaa.autoRights
open Go Go.Proofs.Ytkjoolmkgpmlfaa.V
open Go.ChangeShapes Go.WideShapes Go.ChangeAt Go.RowKit

theorem law : ∀ xs : List PV, All2 (WfV Try.prog 6) Try.f3.params.toList xs → ∃ n m S1, callF Try.prog env n 3 (xs.map (.pure false)) [] = some (.pure m (.bool true), S1) := by
  intro xs h
  have h' : All2 (WfV Try.prog 6) [23, 3, 3, 3] xs := h
  cases h' with
  | cons h1 t1 =>
    cases t1 with
    | cons h2 t2 =>
      cases t2 with
      | cons h3 t3 =>
        cases t3 with
        | cons h4 t4 =>
          cases t4
          obtain ⟨s, r, rfl⟩ := wfv_aut h1
          obtain ⟨a, rfl, _⟩ := wfv_i64 h2
          obtain ⟨b, rfl, _⟩ := wfv_i64 h3
          obtain ⟨c, rfl, _⟩ := wfv_i64 h4
          obtain ⟨n, hn⟩ := autoRights_runs s r a b c
          exact ⟨n, _, _, hn⟩

set_option maxRecDepth 100000 in
theorem lifted (os : Os) (started : os.Started) (H : Type) (enc : TypeId × Value → H) :
    ReturnsInHanded {} Try.checked os 3 .any (Rows.autoRightsSpec.pre6 enc Try.prog Try.f3 Rows.autoRightsRow.domain false) (Rows.autoRightsSpec.post enc Try.prog Try.f3 false true false false) := by
  refine returnsInHanded_of_change_sized (C := Try.checked) own started (by kernel_rfl) Try.func3
    (ChangeSpec.witness6 (enc := enc) (C := Try.checked) false ⟨#[], #[.agg #[.int .i64 0, .int .i64 0], .int .i64 0, .int .i64 0, .int .i64 0], []⟩ 8 (by kernel_rfl) (by kernel_rfl) (by kernel_rfl) (by kernel_rfl)) ?_
  intro W base args ds gs before hval hW hcnd hsz _
  refine law_contract (N := 6) (rt := 4) envAll (fun _ => rfl) laidOut rfl rfl Try.underlying4 (by kernel_rfl) (by kernel_rfl) ?_ law W base args ds gs before hval hW hsz
  intro ds hl
  match ds, hl with
  | [d0, d1, d2, d3], _ => rfl

theorem j0 : Rows.autoRightsRow.wf (OpenSpec.ofChange Rows.autoRightsSpec) = true := by kernel_rfl
theorem j3 : Try.f3.params.all (Try.prog.readableRec ·) = true := by kernel_rfl
theorem j4 : namedTie Try.prog Rows.autoRightsRow.named Rows.autoRightsSpec.vars = true := by kernel_rfl
theorem j9 : (Rows.autoRightsRow.inPlace == Try.prog.inPlace 3) = true := by kernel_rfl
theorem j10 : (Rows.autoRightsRow.unfollowed == Try.prog.unfollowed 3) = true := by kernel_rfl
theorem j11 : (Rows.autoRightsRow.recurses == Try.prog.recurses 3) = true := by kernel_rfl
theorem j12 : (Rows.autoRightsRow.named == Try.prog.varsNamed 3) = true := by kernel_rfl
theorem hfn : Try.pinned.checked.prog.funcNamed Rows.autoRightsRow.func = some 3 := by kernel_rfl
theorem joined : joinedFacts Try.pinned.checked.prog 3 Try.f3 Rows.autoRightsSpec Rows.autoRightsRow = true := by
  show joinedFacts Try.prog 3 Try.f3 Rows.autoRightsSpec Rows.autoRightsRow = true
  unfold joinedFacts
  simp only [Bool.and_eq_true]
  exact ⟨⟨⟨⟨⟨⟨⟨⟨⟨⟨⟨⟨⟨⟨⟨⟨⟨⟨⟨⟨⟨⟨⟨⟨⟨⟨⟨⟨⟨⟨⟨j0, y_laid⟩, y_maps⟩, j3⟩, j4⟩, by kernel_rfl⟩, y_stops⟩, by kernel_rfl⟩, y_knobs⟩, j9⟩, j10⟩, j11⟩, j12⟩, by kernel_rfl⟩, by kernel_rfl⟩, by kernel_rfl⟩, by kernel_rfl⟩, by kernel_rfl⟩, by kernel_rfl⟩, by kernel_rfl⟩, by kernel_rfl⟩, by kernel_rfl⟩, by rw [y_plain]; kernel_rfl⟩, by kernel_rfl⟩, y_heard⟩, y_enter⟩, by rw [y_lifts]; kernel_rfl⟩, by rw [y_make]; kernel_rfl⟩, by kernel_rfl⟩, by kernel_rfl⟩, by kernel_rfl⟩, by kernel_rfl⟩

theorem over : Rows.autoRightsRow.holds Try.pinned (OpenSpec.ofChange Rows.autoRightsSpec) :=
  OpenClaim.holds_of_wide 3 Try.f3 rfl rfl rfl rfl rfl rfl rfl ⟨rfl, rfl, rfl, rfl, rfl⟩ rfl rfl rfl rfl rfl hfn Try.func3 joined
    (of_decide_eq_true (by kernel_rfl)) (by unfold Func.isWrapper; first | (rw [if_pos (by decide +kernel)]; kernel_rfl) | (rw [if_neg (by decide +kernel)]; exact ⟨rfl, rfl⟩))
    (fun os started H enc _ => lifted os started H enc)
end Go.Proofs.Ytkjoolmkgpmlfaa.autoRights
namespace Go.Proofs.Ytkjoolmkgpmlfaa
theorem autoRights_holds : Rows.AutoRightsSaid := autoRights.over
#print axioms autoRights_holds
end Go.Proofs.Ytkjoolmkgpmlfaa
