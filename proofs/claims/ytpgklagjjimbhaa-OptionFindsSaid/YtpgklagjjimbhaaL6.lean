/- OptionFinds: for all lists of options and every Type the law answers true; no condition. -/
import Derived.Test.YtpgklagjjimbhaaJ
import Derived.Test.YtpgklagjjimbhaaRows
import Derived.Test.YtpgklagjjimbhaaY
import Derived.WalkKit
import Derived.ProofKit
import Derived.OpenShut
import Derived.ShutString
import Derived.ChangeOld
import Derived.Below
import Derived.SizedLaws
set_option linter.unusedVariables false
set_option maxRecDepth 100000
namespace Go.Proofs.Ytpgklagjjimbhaa.optionFinds
open Go Go.Proofs.Ytpgklagjjimbhaa.V
open Go.ChangeShapes Go.WideShapes Go.ChangeAt Go.RowKit

theorem law : ∀ xs : List PV, All2 (WfV Try.prog 6) Try.f6.params.toList xs → ∃ n m S1, callF Try.prog env n 6 (xs.map (.pure false)) [] = some (.pure m (.bool true), S1) := by
  intro xs h
  have h' : All2 (WfV Try.prog 6) [22, 22, 3] xs := h
  cases h' with
  | cons h1 t1 =>
    cases t1 with
    | cons h2 t2 =>
      cases t2 with
      | cons h3 t3 =>
        cases t3
        obtain ⟨l, rfl, _⟩ := wfv_opts h1
        obtain ⟨k, rfl, _⟩ := wfv_opts h2
        obtain ⟨t, rfl, _⟩ := wfv_i64 h3
        obtain ⟨n, hn⟩ := optionFinds_runs l k t
        exact ⟨n, _, _, hn⟩

set_option maxRecDepth 100000 in
theorem lifted (os : Os) (started : os.Started) (H : Type) (enc : TypeId × Value → H) :
    ReturnsInHanded {} Try.checked os 6 .any (Rows.optionFindsSpec.pre6 enc Try.prog Try.f6 Rows.optionFindsRow.domain false) (Rows.optionFindsSpec.post enc Try.prog Try.f6 false true false false) := by
  refine returnsInHanded_of_change_sized (C := Try.checked) own started (by kernel_rfl) Try.func6
    (ChangeSpec.witness6 (enc := enc) (C := Try.checked) false ⟨#[], #[.slice none 0 0, .slice none 0 0, .int .i64 0], []⟩ 8 (by kernel_rfl) (by kernel_rfl) (by kernel_rfl) (by kernel_rfl)) ?_
  intro W base args ds gs before hval hW hcnd hsz _
  refine law_contract (N := 6) (rt := 4) envAll (fun _ => rfl) laidOut rfl rfl Try.underlying4 (by kernel_rfl) (by kernel_rfl) ?_ law W base args ds gs before hval hW hsz
  intro ds hl
  match ds, hl with
  | [d0, d1, d2], _ => rfl

theorem j0 : Rows.optionFindsRow.wf (OpenSpec.ofChange Rows.optionFindsSpec) = true := by kernel_rfl
theorem j3 : Try.f6.params.all (Try.prog.readableRec ·) = true := by kernel_rfl
theorem j4 : namedTie Try.prog Rows.optionFindsRow.named Rows.optionFindsSpec.vars = true := by kernel_rfl
theorem j9 : (Rows.optionFindsRow.inPlace == Try.prog.inPlace 6) = true := by kernel_rfl
theorem j10 : (Rows.optionFindsRow.unfollowed == Try.prog.unfollowed 6) = true := by kernel_rfl
theorem j11 : (Rows.optionFindsRow.recurses == Try.prog.recurses 6) = true := by kernel_rfl
theorem j12 : (Rows.optionFindsRow.named == Try.prog.varsNamed 6) = true := by kernel_rfl
theorem hfn : Try.pinned.checked.prog.funcNamed Rows.optionFindsRow.func = some 6 := by kernel_rfl
theorem joined : joinedFacts Try.pinned.checked.prog 6 Try.f6 Rows.optionFindsSpec Rows.optionFindsRow = true := by
  show joinedFacts Try.prog 6 Try.f6 Rows.optionFindsSpec Rows.optionFindsRow = true
  unfold joinedFacts
  simp only [Bool.and_eq_true]
  exact ⟨⟨⟨⟨⟨⟨⟨⟨⟨⟨⟨⟨⟨⟨⟨⟨⟨⟨⟨⟨⟨⟨⟨⟨⟨⟨⟨⟨⟨⟨⟨j0, y_laid⟩, y_maps⟩, j3⟩, j4⟩, by kernel_rfl⟩, y_stops⟩, by kernel_rfl⟩, y_knobs⟩, j9⟩, j10⟩, j11⟩, j12⟩, by kernel_rfl⟩, by kernel_rfl⟩, by kernel_rfl⟩, by kernel_rfl⟩, by kernel_rfl⟩, by kernel_rfl⟩, by kernel_rfl⟩, by kernel_rfl⟩, by kernel_rfl⟩, by rw [y_plain]; kernel_rfl⟩, by kernel_rfl⟩, y_heard⟩, y_enter⟩, by rw [y_lifts]; kernel_rfl⟩, by rw [y_make]; kernel_rfl⟩, by kernel_rfl⟩, by kernel_rfl⟩, by kernel_rfl⟩, by kernel_rfl⟩

theorem over : Rows.optionFindsRow.holds Try.pinned (OpenSpec.ofChange Rows.optionFindsSpec) :=
  OpenClaim.holds_of_wide 6 Try.f6 rfl rfl rfl rfl rfl rfl rfl ⟨rfl, rfl, rfl, rfl, rfl⟩ rfl rfl rfl rfl rfl hfn Try.func6 joined
    (of_decide_eq_true (by kernel_rfl)) (by unfold Func.isWrapper; first | (rw [if_pos (by decide +kernel)]; kernel_rfl) | (rw [if_neg (by decide +kernel)]; exact ⟨rfl, rfl⟩))
    (fun os started H enc _ => lifted os started H enc)
end Go.Proofs.Ytpgklagjjimbhaa.optionFinds
namespace Go.Proofs.Ytpgklagjjimbhaa
theorem optionFinds_holds : Rows.OptionFindsSaid := optionFinds.over
#print axioms optionFinds_holds
end Go.Proofs.Ytpgklagjjimbhaa
