/- DigitsBack: for all numbers, bytes and texts the law answers true; no condition. -/
import Derived.Test.YtpcocbgicckcgaaW2
import Derived.Test.YtpcocbgicckcgaaRows
import Derived.WalkKit
import Derived.ProofKit
import Derived.OpenShut
import Derived.ShutString
import Derived.ChangeOld
import Derived.Below
import Derived.SizedLaws
set_option linter.unusedVariables false
namespace Go.Proofs.Ytpcocbgicckcgaa.digitsBack
open Go Go.Proofs.Ytpcocbgicckcgaa.V
open Go.ChangeShapes Go.WideShapes Go.ChangeAt Go.RowKit

theorem law : ∀ xs : List PV, All2 (WfV Try.prog 4) Try.f5.params.toList xs → ∃ n m S1, callF Try.prog env n 5 (xs.map (.pure false)) [] = some (.pure m (.bool true), S1) := by
  intro xs h
  have h' : All2 (WfV Try.prog 4) [22, 22, 23, 9] xs := h
  cases h' with
  | cons h1 t1 =>
    cases t1 with
    | cons h2 t2 =>
      cases t2 with
      | cons h3 t3 =>
        cases t3 with
        | cons h4 t4 =>
          cases t4
          obtain ⟨i, rfl, hi⟩ := wfv_u64 h1
          obtain ⟨j, rfl, hj⟩ := wfv_u64 h2
          obtain ⟨b, rfl⟩ := wfv_bytes h3
          obtain ⟨s, rfl, hs⟩ := wfv_str h4
          obtain ⟨n, hn⟩ := digitsBack_runs i j hi hj b s
          exact ⟨n, _, _, hn⟩

set_option maxRecDepth 100000 in
theorem lifted (os : Os) (started : os.Started) (H : Type) (enc : TypeId × Value → H) :
    ReturnsInHanded {} Try.checked os 5 .any (Rows.digitsBackSpec.pre6 enc Try.prog Try.f5 Rows.digitsBackRow.domain false) (Rows.digitsBackSpec.post enc Try.prog Try.f5 false true false false) := by
  refine returnsInHanded_of_change_sized (C := Try.checked) own started (by kernel_rfl) Try.func5
    (ChangeSpec.witness6 (enc := enc) (C := Try.checked) false ⟨#[], #[.int .u64 0, .int .u64 0, .slice none 0 0, .string ByteArray.empty], []⟩ 8 (by kernel_rfl) (by kernel_rfl) (by kernel_rfl) (by kernel_rfl)) ?_
  intro W base args ds gs before hval hW hcnd hsz _
  refine law_contract (N := 4) (rt := 4) envAll (fun _ => rfl) laidOut rfl rfl Try.underlying4 (by kernel_rfl) (by kernel_rfl) ?_ law W base args ds gs before hval hW hsz
  intro ds hl
  match ds, hl with
  | [d0, d1, d2, d3], _ => rfl

theorem over : Rows.digitsBackRow.holds Try.pinned (OpenSpec.ofChange Rows.digitsBackSpec) :=
  OpenClaim.holds_of_wide 5 Try.f5 rfl rfl rfl rfl rfl rfl rfl ⟨rfl, rfl, rfl, rfl, rfl⟩ rfl rfl rfl rfl rfl (by kernel_rfl) Try.func5 (by kernel_rfl)
    (of_decide_eq_true (by kernel_rfl)) (by unfold Func.isWrapper; first | (rw [if_pos (by decide +kernel)]; kernel_rfl) | (rw [if_neg (by decide +kernel)]; exact ⟨rfl, rfl⟩))
    (fun os started H enc _ => lifted os started H enc)
end Go.Proofs.Ytpcocbgicckcgaa.digitsBack
namespace Go.Proofs.Ytpcocbgicckcgaa
theorem digitsBack_holds : Rows.DigitsBackSaid := digitsBack.over
#print axioms digitsBack_holds
end Go.Proofs.Ytpcocbgicckcgaa
