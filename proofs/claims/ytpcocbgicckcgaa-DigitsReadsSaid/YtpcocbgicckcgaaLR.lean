/- DigitsReads: for every text the law answers true; no condition. -/
import Derived.Test.YtpcocbgicckcgaaX
import Derived.Test.YtpcocbgicckcgaaRows
import Derived.WalkKit
import Derived.ProofKit
import Derived.OpenShut
import Derived.ShutString
import Derived.ChangeOld
import Derived.Below
import Derived.SizedLaws
set_option linter.unusedVariables false
namespace Go.Proofs.Ytpcocbgicckcgaa.digitsReads
open Go Go.Proofs.Ytpcocbgicckcgaa.V
open Go.ChangeShapes Go.WideShapes Go.ChangeAt Go.RowKit

theorem law : ∀ xs : List PV, All2 (WfV Try.prog 3) Try.f4.params.toList xs → ∃ n m S1, callF Try.prog env n 4 (xs.map (.pure false)) [] = some (.pure m (.bool true), S1) := by
  intro xs h
  have h' : All2 (WfV Try.prog 3) [9] xs := h
  cases h' with
  | cons h1 h2 =>
    cases h2
    obtain ⟨s, rfl, hs⟩ := wfv_str h1
    obtain ⟨n, hn⟩ := digitsReads_runs s
    exact ⟨n, _, _, hn⟩

set_option maxRecDepth 100000 in
theorem lifted (os : Os) (started : os.Started) (H : Type) (enc : TypeId × Value → H) :
    ReturnsInHanded {} Try.checked os 4 .any (Rows.digitsReadsSpec.pre6 enc Try.prog Try.f4 Rows.digitsReadsRow.domain false) (Rows.digitsReadsSpec.post enc Try.prog Try.f4 false true false false) := by
  refine returnsInHanded_of_change_sized (C := Try.checked) own started (by kernel_rfl) Try.func4
    (ChangeSpec.witness6 (enc := enc) (C := Try.checked) false ⟨#[], #[.string ByteArray.empty], []⟩ 8 (by kernel_rfl) (by kernel_rfl) (by kernel_rfl) (by kernel_rfl)) ?_
  intro W base args ds gs before hval hW hcnd hsz _
  refine law_contract (N := 3) (rt := 4) envAll (fun _ => rfl) laidOut rfl rfl Try.underlying4 (by kernel_rfl) (by kernel_rfl) ?_ law W base args ds gs before hval hW hsz
  intro ds hl
  match ds, hl with
  | [d], _ => rfl

theorem over : Rows.digitsReadsRow.holds Try.pinned (OpenSpec.ofChange Rows.digitsReadsSpec) :=
  OpenClaim.holds_of_wide 4 Try.f4 rfl rfl rfl rfl rfl rfl rfl ⟨rfl, rfl, rfl, rfl, rfl⟩ rfl rfl rfl rfl rfl (by kernel_rfl) Try.func4 (by kernel_rfl)
    (of_decide_eq_true (by kernel_rfl)) (by unfold Func.isWrapper; first | (rw [if_pos (by decide +kernel)]; kernel_rfl) | (rw [if_neg (by decide +kernel)]; exact ⟨rfl, rfl⟩))
    (fun os started H enc _ => lifted os started H enc)
end Go.Proofs.Ytpcocbgicckcgaa.digitsReads
namespace Go.Proofs.Ytpcocbgicckcgaa
theorem digitsReads_holds : Rows.DigitsReadsSaid := digitsReads.over
#print axioms digitsReads_holds
end Go.Proofs.Ytpcocbgicckcgaa
