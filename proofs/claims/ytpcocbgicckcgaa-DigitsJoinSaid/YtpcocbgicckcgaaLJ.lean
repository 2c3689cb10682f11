/- DigitsJoin: for all lists of texts and every number the law answers true; no condition. -/
import Derived.Test.YtpcocbgicckcgaaW3
import Derived.Test.YtpcocbgicckcgaaRows
import Derived.WalkKit
import Derived.ProofKit
import Derived.OpenShut
import Derived.ShutString
import Derived.ChangeOld
import Derived.Below
import Derived.SizedLaws
set_option linter.unusedVariables false
namespace Go.Proofs.Ytpcocbgicckcgaa.digitsJoin
open Go Go.Proofs.Ytpcocbgicckcgaa.V
open Go.ChangeShapes Go.WideShapes Go.ChangeAt Go.RowKit

theorem law : ∀ xs : List PV, All2 (WfV Try.prog 4) Try.f8.params.toList xs → ∃ n m S1, callF Try.prog env n 8 (xs.map (.pure false)) [] = some (.pure m (.bool true), S1) := by
  intro xs h
  have h' : All2 (WfV Try.prog 4) [38, 5] xs := h
  cases h' with
  | cons h1 t1 =>
    cases t1 with
    | cons h2 t2 =>
      cases t2
      obtain ⟨l, rfl⟩ := wfv_strs h1
      obtain ⟨c, rfl⟩ := wfv_u8 h2.1 h2.2
      obtain ⟨n, hn⟩ := digitsJoin_runs l c
      exact ⟨n, _, _, hn⟩

set_option maxRecDepth 100000 in
theorem lifted (os : Os) (started : os.Started) (H : Type) (enc : TypeId × Value → H) :
    ReturnsInHanded {} Try.checked os 8 .any (Rows.digitsJoinSpec.pre6 enc Try.prog Try.f8 Rows.digitsJoinRow.domain false) (Rows.digitsJoinSpec.post enc Try.prog Try.f8 false true false false) := by
  refine returnsInHanded_of_change_sized (C := Try.checked) own started (by kernel_rfl) Try.func8
    (ChangeSpec.witness6 (enc := enc) (C := Try.checked) false ⟨#[], #[.slice none 0 0, .int .u8 0], []⟩ 8 (by kernel_rfl) (by kernel_rfl) (by kernel_rfl) (by kernel_rfl)) ?_
  intro W base args ds gs before hval hW hcnd hsz _
  refine law_contract (N := 4) (rt := 4) envAll (fun _ => rfl) laidOut rfl rfl Try.underlying4 (by kernel_rfl) (by kernel_rfl) ?_ law W base args ds gs before hval hW hsz
  intro ds hl
  match ds, hl with
  | [d0, d1], _ => rfl

theorem over : Rows.digitsJoinRow.holds Try.pinned (OpenSpec.ofChange Rows.digitsJoinSpec) :=
  OpenClaim.holds_of_wide 8 Try.f8 rfl rfl rfl rfl rfl rfl rfl ⟨rfl, rfl, rfl, rfl, rfl⟩ rfl rfl rfl rfl rfl (by kernel_rfl) Try.func8 (by kernel_rfl)
    (of_decide_eq_true (by kernel_rfl)) (by unfold Func.isWrapper; first | (rw [if_pos (by decide +kernel)]; kernel_rfl) | (rw [if_neg (by decide +kernel)]; exact ⟨rfl, rfl⟩))
    (fun os started H enc _ => lifted os started H enc)
end Go.Proofs.Ytpcocbgicckcgaa.digitsJoin
namespace Go.Proofs.Ytpcocbgicckcgaa
theorem digitsJoin_holds : Rows.DigitsJoinSaid := digitsJoin.over
#print axioms digitsJoin_holds
end Go.Proofs.Ytpcocbgicckcgaa
