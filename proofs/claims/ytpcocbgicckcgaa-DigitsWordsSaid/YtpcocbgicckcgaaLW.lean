/- DigitsWords: for every text of at most 2000 bytes (for a longer one by its own first answer) the law answers true; no condition. -/
import Derived.Test.YtpcocbgicckcgaaT
import Derived.Test.YtpcocbgicckcgaaRows
import Derived.WalkKit
import Derived.ProofKit
import Derived.OpenShut
import Derived.ShutString
import Derived.ChangeOld
import Derived.Below
import Derived.SizedLaws
set_option linter.unusedVariables false
namespace Go.Proofs.Ytpcocbgicckcgaa.digitsWords
open Go Go.Proofs.Ytpcocbgicckcgaa.V
open Go.ChangeShapes Go.WideShapes Go.ChangeAt Go.RowKit

theorem wfv_str {n : Nat} {x : PV} (h : WfV Try.prog (n + 1) 9 x) : ∃ s, x = .str s ∧ s.length ≤ 140737488351232 := by
  obtain ⟨h1, h2⟩ := h
  simp only [WfC, Try.underlying9] at h2
  obtain ⟨s, h2, h3⟩ := h2
  rw [agg9] at h1
  cases x with
  | agg cs => cases h1
  | _ =>
    simp only [PV.cells, List.cons.injEq, and_true] at h2
    exact ⟨s, h2, h3⟩

theorem law : ∀ xs : List PV, All2 (WfV Try.prog 3) Try.f7.params.toList xs → ∃ n m S1, callF Try.prog env n 7 (xs.map (.pure false)) [] = some (.pure m (.bool true), S1) := by
  intro xs h
  have h' : All2 (WfV Try.prog 3) [9] xs := h
  cases h' with
  | cons h1 h2 =>
    cases h2
    obtain ⟨s, rfl, hs⟩ := wfv_str h1
    obtain ⟨n, hn⟩ := digitsWords_runs s
    exact ⟨n, _, _, hn⟩

set_option maxRecDepth 100000 in
theorem lifted (os : Os) (started : os.Started) (H : Type) (enc : TypeId × Value → H) :
    ReturnsInHanded {} Try.checked os 7 .any (Rows.digitsWordsSpec.pre6 enc Try.prog Try.f7 Rows.digitsWordsRow.domain false) (Rows.digitsWordsSpec.post enc Try.prog Try.f7 false true false false) := by
  refine returnsInHanded_of_change_sized (C := Try.checked) own started (by kernel_rfl) Try.func7
    (ChangeSpec.witness6 (enc := enc) (C := Try.checked) false ⟨#[], #[.string ByteArray.empty], []⟩ 8 (by kernel_rfl) (by kernel_rfl) (by kernel_rfl) (by kernel_rfl)) ?_
  intro W base args ds gs before hval hW hcnd hsz _
  refine law_contract (N := 3) (rt := 4) envAll (fun _ => rfl) laidOut rfl rfl Try.underlying4 (by kernel_rfl) (by kernel_rfl) ?_ law W base args ds gs before hval hW hsz
  intro ds hl
  match ds, hl with
  | [d], _ => rfl

theorem over : Rows.digitsWordsRow.holds Try.pinned (OpenSpec.ofChange Rows.digitsWordsSpec) :=
  OpenClaim.holds_of_wide 7 Try.f7 rfl rfl rfl rfl rfl rfl rfl ⟨rfl, rfl, rfl, rfl, rfl⟩ rfl rfl rfl rfl rfl (by kernel_rfl) Try.func7 (by kernel_rfl)
    (of_decide_eq_true (by kernel_rfl)) (by unfold Func.isWrapper; first | (rw [if_pos (by decide +kernel)]; kernel_rfl) | (rw [if_neg (by decide +kernel)]; exact ⟨rfl, rfl⟩))
    (fun os started H enc _ => lifted os started H enc)
end Go.Proofs.Ytpcocbgicckcgaa.digitsWords
namespace Go.Proofs.Ytpcocbgicckcgaa
theorem digitsWords_holds : Rows.DigitsWordsSaid := digitsWords.over
#print axioms digitsWords_holds
end Go.Proofs.Ytpcocbgicckcgaa
