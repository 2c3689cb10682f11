/- ReplyAnswers: for every two packets the law answers true; no condition. -/
import Derived.Test.YtpgklagjjimbhaaWE
import Derived.Test.YtpgklagjjimbhaaRows
import Derived.Test.YtpgklagjjimbhaaY
import Derived.WalkKit
import Derived.ProofKit
import Derived.OpenShut
import Derived.ShutString
import Derived.ChangeOld
import Derived.Below
import Derived.SizedLaws
set_option linter.unusedVariables false
set_option maxRecDepth 100000
namespace Go.Proofs.Ytpgklagjjimbhaa.replyAnswers
open Go Go.Proofs.Ytpgklagjjimbhaa.V
open Go.ChangeShapes Go.WideShapes Go.ChangeAt Go.RowKit

theorem law : ∀ xs : List PV, All2 (WfV Try.prog 6) Try.f23.params.toList xs → ∃ n m S1, callF Try.prog env n 23 (xs.map (.pure false)) [] = some (.pure m (.bool true), S1) := by
  intro xs h
  have h' : All2 (WfV Try.prog 6) [49, 49] xs := h
  cases h' with
  | cons h1 t1 =>
    cases t1 with
    | cons h2 t2 =>
      cases t2
      obtain ⟨q, rfl, _⟩ := wfv_pkt h1
      obtain ⟨p, rfl, _⟩ := wfv_pkt h2
      obtain ⟨n, hn⟩ := replyAnswers_runs q p
      exact ⟨n, _, _, hn⟩

set_option maxRecDepth 100000 in
theorem lifted (os : Os) (started : os.Started) (H : Type) (enc : TypeId × Value → H) :
    ReturnsInHanded {} Try.checked os 23 .any (Rows.replyAnswersSpec.pre6 enc Try.prog Try.f23 Rows.replyAnswersRow.domain false) (Rows.replyAnswersSpec.post enc Try.prog Try.f23 false true false false) := by
  refine returnsInHanded_of_change_sized (C := Try.checked) own started (by kernel_rfl) Try.func23
    (ChangeSpec.witness6 (enc := enc) (C := Try.checked) false ⟨#[], #[.agg #[.int .i64 0, .int .i64 0, .slice none 0 0], .agg #[.int .i64 0, .int .i64 0, .slice none 0 0]], []⟩ 8 (by kernel_rfl) (by kernel_rfl) (by kernel_rfl) (by kernel_rfl)) ?_
  intro W base args ds gs before hval hW hcnd hsz _
  refine law_contract (N := 6) (rt := 4) envAll (fun _ => rfl) laidOut rfl rfl Try.underlying4 (by kernel_rfl) (by kernel_rfl) ?_ law W base args ds gs before hval hW hsz
  intro ds hl
  match ds, hl with
  | [d0, d1], _ => rfl

theorem j0 : Rows.replyAnswersRow.wf (OpenSpec.ofChange Rows.replyAnswersSpec) = true := by kernel_rfl
theorem j3 : Try.f23.params.all (Try.prog.readableRec ·) = true := by kernel_rfl
theorem j4 : namedTie Try.prog Rows.replyAnswersRow.named Rows.replyAnswersSpec.vars = true := by kernel_rfl
theorem j9 : (Rows.replyAnswersRow.inPlace == Try.prog.inPlace 23) = true := by kernel_rfl
theorem j10 : (Rows.replyAnswersRow.unfollowed == Try.prog.unfollowed 23) = true := by kernel_rfl
theorem j11 : (Rows.replyAnswersRow.recurses == Try.prog.recurses 23) = true := by kernel_rfl
theorem j12 : (Rows.replyAnswersRow.named == Try.prog.varsNamed 23) = true := by kernel_rfl
theorem hfn : Try.pinned.checked.prog.funcNamed Rows.replyAnswersRow.func = some 23 := by kernel_rfl
theorem joined : joinedFacts Try.pinned.checked.prog 23 Try.f23 Rows.replyAnswersSpec Rows.replyAnswersRow = true := by
  show joinedFacts Try.prog 23 Try.f23 Rows.replyAnswersSpec Rows.replyAnswersRow = true
  unfold joinedFacts
  simp only [Bool.and_eq_true]
  exact ⟨⟨⟨⟨⟨⟨⟨⟨⟨⟨⟨⟨⟨⟨⟨⟨⟨⟨⟨⟨⟨⟨⟨⟨⟨⟨⟨⟨⟨⟨⟨j0, y_laid⟩, y_maps⟩, j3⟩, j4⟩, by kernel_rfl⟩, y_stops⟩, by kernel_rfl⟩, y_knobs⟩, j9⟩, j10⟩, j11⟩, j12⟩, by kernel_rfl⟩, by kernel_rfl⟩, by kernel_rfl⟩, by kernel_rfl⟩, by kernel_rfl⟩, by kernel_rfl⟩, by kernel_rfl⟩, by kernel_rfl⟩, by kernel_rfl⟩, by rw [y_plain]; kernel_rfl⟩, by kernel_rfl⟩, y_heard⟩, y_enter⟩, by rw [y_lifts]; kernel_rfl⟩, by rw [y_make]; kernel_rfl⟩, by kernel_rfl⟩, by kernel_rfl⟩, by kernel_rfl⟩, by kernel_rfl⟩

theorem over : Rows.replyAnswersRow.holds Try.pinned (OpenSpec.ofChange Rows.replyAnswersSpec) :=
  OpenClaim.holds_of_wide 23 Try.f23 rfl rfl rfl rfl rfl rfl rfl ⟨rfl, rfl, rfl, rfl, rfl⟩ rfl rfl rfl rfl rfl hfn Try.func23 joined
    (of_decide_eq_true (by kernel_rfl)) (by unfold Func.isWrapper; first | (rw [if_pos (by decide +kernel)]; kernel_rfl) | (rw [if_neg (by decide +kernel)]; exact ⟨rfl, rfl⟩))
    (fun os started H enc _ => lifted os started H enc)
end Go.Proofs.Ytpgklagjjimbhaa.replyAnswers
namespace Go.Proofs.Ytpgklagjjimbhaa
theorem replyAnswers_holds : Rows.ReplyAnswersSaid := replyAnswers.over
#print axioms replyAnswers_holds
end Go.Proofs.Ytpgklagjjimbhaa
