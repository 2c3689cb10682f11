/- DigitsPuts: for every number and all bytes the law answers true; no condition. -/
import Derived.Test.YtpcocbgicckcgaaX
import Derived.Test.YtpcocbgicckcgaaRows
import Derived.WalkKit
import Derived.ProofKit
import Derived.OpenShut
import Derived.ShutString
import Derived.ChangeOld
import Derived.Below
import Derived.SizedLaws
set_option linter.unusedVariables false
namespace Go.Proofs.Ytpcocbgicckcgaa.digitsPuts
open Go Go.Proofs.Ytpcocbgicckcgaa.V
open Go.ChangeShapes Go.WideShapes Go.ChangeAt Go.RowKit

theorem law : ∀ xs : List PV, All2 (WfV Try.prog 3) Try.f3.params.toList xs → ∃ n m S1, callF Try.prog env n 3 (xs.map (.pure false)) [] = some (.pure m (.bool true), S1) := by
  intro xs h
  have h' : All2 (WfV Try.prog 3) [22, 23] xs := h
  cases h' with
  | cons h1 h2 =>
    cases h2 with
    | cons h2 h3 =>
      cases h3
      obtain ⟨i, rfl, hi⟩ := wfv_u64 h1
      obtain ⟨b, rfl⟩ := wfv_bytes h2
      obtain ⟨n, hn⟩ := digitsPuts_runs i hi b
      exact ⟨n, _, _, hn⟩

set_option maxRecDepth 100000 in
theorem lifted (os : Os) (started : os.Started) (H : Type) (enc : TypeId × Value → H) :
    ReturnsInHanded {} Try.checked os 3 .any (Rows.digitsPutsSpec.pre6 enc Try.prog Try.f3 Rows.digitsPutsRow.domain false) (Rows.digitsPutsSpec.post enc Try.prog Try.f3 false true false false) := by
  refine returnsInHanded_of_change_sized (C := Try.checked) own started (by kernel_rfl) Try.func3
    (ChangeSpec.witness6 (enc := enc) (C := Try.checked) false ⟨#[], #[.int .u64 0, .slice none 0 0], []⟩ 8 (by kernel_rfl) (by kernel_rfl) (by kernel_rfl) (by kernel_rfl)) ?_
  intro W base args ds gs before hval hW hcnd hsz _
  refine law_contract (N := 3) (rt := 4) envAll (fun _ => rfl) laidOut rfl rfl Try.underlying4 (by kernel_rfl) (by kernel_rfl) ?_ law W base args ds gs before hval hW hsz
  intro ds hl
  match ds, hl with
  | [d, d'], _ => rfl

theorem over : Rows.digitsPutsRow.holds Try.pinned (OpenSpec.ofChange Rows.digitsPutsSpec) :=
  OpenClaim.holds_of_wide 3 Try.f3 rfl rfl rfl rfl rfl rfl rfl ⟨rfl, rfl, rfl, rfl, rfl⟩ rfl rfl rfl rfl rfl (by kernel_rfl) Try.func3 (by kernel_rfl)
    (of_decide_eq_true (by kernel_rfl)) (by unfold Func.isWrapper; first | (rw [if_pos (by decide +kernel)]; kernel_rfl) | (rw [if_neg (by decide +kernel)]; exact ⟨rfl, rfl⟩))
    (fun os started H enc _ => lifted os started H enc)
end Go.Proofs.Ytpcocbgicckcgaa.digitsPuts
namespace Go.Proofs.Ytpcocbgicckcgaa
theorem digitsPuts_holds : Rows.DigitsPutsSaid := digitsPuts.over
#print axioms digitsPuts_holds
end Go.Proofs.Ytpcocbgicckcgaa
