/- OptionTaken: for all lists of options and every number the law answers true; no condition. -/
import Derived.Test.YtpgklagjjimbhaaK
import Derived.Test.YtpgklagjjimbhaaRows
import Derived.Test.YtpgklagjjimbhaaY
import Derived.WalkKit
import Derived.ProofKit
import Derived.OpenShut
import Derived.ShutString
import Derived.ChangeOld
import Derived.Below
import Derived.SizedLaws
set_option linter.unusedVariables false
set_option maxRecDepth 100000
namespace Go.Proofs.Ytpgklagjjimbhaa.optionTaken
open Go Go.Proofs.Ytpgklagjjimbhaa.V
open Go.ChangeShapes Go.WideShapes Go.ChangeAt Go.RowKit

theorem law : ∀ xs : List PV, All2 (WfV Try.prog 6) Try.f7.params.toList xs → ∃ n m S1, callF Try.prog env n 7 (xs.map (.pure false)) [] = some (.pure m (.bool true), S1) := by
  intro xs h
  have h' : All2 (WfV Try.prog 6) [22, 44] xs := h
  cases h' with
  | cons h1 t1 =>
    cases t1 with
    | cons h2 t2 =>
      cases t2
      obtain ⟨l, rfl, _⟩ := wfv_opts h1
      obtain ⟨k, rfl, hk⟩ := wfv_u64 h2
      obtain ⟨n, hn⟩ := optionTaken_runs l k hk
      exact ⟨n, _, _, hn⟩

set_option maxRecDepth 100000 in
theorem lifted (os : Os) (started : os.Started) (H : Type) (enc : TypeId × Value → H) :
    ReturnsInHanded {} Try.checked os 7 .any (Rows.optionTakenSpec.pre6 enc Try.prog Try.f7 Rows.optionTakenRow.domain false) (Rows.optionTakenSpec.post enc Try.prog Try.f7 false true false false) := by
  refine returnsInHanded_of_change_sized (C := Try.checked) own started (by kernel_rfl) Try.func7
    (ChangeSpec.witness6 (enc := enc) (C := Try.checked) false ⟨#[], #[.slice none 0 0, .int .u64 0], []⟩ 8 (by kernel_rfl) (by kernel_rfl) (by kernel_rfl) (by kernel_rfl)) ?_
  intro W base args ds gs before hval hW hcnd hsz _
  refine law_contract (N := 6) (rt := 4) envAll (fun _ => rfl) laidOut rfl rfl Try.underlying4 (by kernel_rfl) (by kernel_rfl) ?_ law W base args ds gs before hval hW hsz
  intro ds hl
  match ds, hl with
  | [d0, d1], _ => rfl

theorem j0 : Rows.optionTakenRow.wf (OpenSpec.ofChange Rows.optionTakenSpec) = true := by kernel_rfl
theorem j3 : Try.f7.params.all (Try.prog.readableRec ·) = true := by kernel_rfl
theorem j4 : namedTie Try.prog Rows.optionTakenRow.named Rows.optionTakenSpec.vars = true := by kernel_rfl
theorem j9 : (Rows.optionTakenRow.inPlace == Try.prog.inPlace 7) = true := by kernel_rfl
theorem j10 : (Rows.optionTakenRow.unfollowed == Try.prog.unfollowed 7) = true := by kernel_rfl
theorem j11 : (Rows.optionTakenRow.recurses == Try.prog.recurses 7) = true := by kernel_rfl
theorem j12 : (Rows.optionTakenRow.named == Try.prog.varsNamed 7) = true := by kernel_rfl
theorem hfn : Try.pinned.checked.prog.funcNamed Rows.optionTakenRow.func = some 7 := by kernel_rfl
theorem joined : joinedFacts Try.pinned.checked.prog 7 Try.f7 Rows.optionTakenSpec Rows.optionTakenRow = true := by
  show joinedFacts Try.prog 7 Try.f7 Rows.optionTakenSpec Rows.optionTakenRow = true
  unfold joinedFacts
  simp only [Bool.and_eq_true]
  exact ⟨⟨⟨⟨⟨⟨⟨⟨⟨⟨⟨⟨⟨⟨⟨⟨⟨⟨⟨⟨⟨⟨⟨⟨⟨⟨⟨⟨⟨⟨⟨j0, y_laid⟩, y_maps⟩, j3⟩, j4⟩, by kernel_rfl⟩, y_stops⟩, by kernel_rfl⟩, y_knobs⟩, j9⟩, j10⟩, j11⟩, j12⟩, by kernel_rfl⟩, by kernel_rfl⟩, by kernel_rfl⟩, by kernel_rfl⟩, by kernel_rfl⟩, by kernel_rfl⟩, by kernel_rfl⟩, by kernel_rfl⟩, by kernel_rfl⟩, by rw [y_plain]; kernel_rfl⟩, by kernel_rfl⟩, y_heard⟩, y_enter⟩, by rw [y_lifts]; kernel_rfl⟩, by rw [y_make]; kernel_rfl⟩, by kernel_rfl⟩, by kernel_rfl⟩, by kernel_rfl⟩, by kernel_rfl⟩

theorem over : Rows.optionTakenRow.holds Try.pinned (OpenSpec.ofChange Rows.optionTakenSpec) :=
  OpenClaim.holds_of_wide 7 Try.f7 rfl rfl rfl rfl rfl rfl rfl ⟨rfl, rfl, rfl, rfl, rfl⟩ rfl rfl rfl rfl rfl hfn Try.func7 joined
    (of_decide_eq_true (by kernel_rfl)) (by unfold Func.isWrapper; first | (rw [if_pos (by decide +kernel)]; kernel_rfl) | (rw [if_neg (by decide +kernel)]; exact ⟨rfl, rfl⟩))
    (fun os started H enc _ => lifted os started H enc)
end Go.Proofs.Ytpgklagjjimbhaa.optionTaken
namespace Go.Proofs.Ytpgklagjjimbhaa
theorem optionTaken_holds : Rows.OptionTakenSaid := optionTaken.over
#print axioms optionTaken_holds
end Go.Proofs.Ytpgklagjjimbhaa
