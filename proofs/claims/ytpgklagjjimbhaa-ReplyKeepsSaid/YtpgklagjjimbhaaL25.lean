/- ReplyKeeps: for all bytes, every two packets and every number the law answers true; no condition. -/
import Derived.Test.YtpgklagjjimbhaaWG
import Derived.Test.YtpgklagjjimbhaaRows
import Derived.Test.YtpgklagjjimbhaaY
import Derived.WalkKit
import Derived.ProofKit
import Derived.OpenShut
import Derived.ShutString
import Derived.ChangeOld
import Derived.Below
import Derived.SizedLaws
set_option linter.unusedVariables false
set_option maxRecDepth 100000
namespace Go.Proofs.Ytpgklagjjimbhaa.replyKeeps
open Go Go.Proofs.Ytpgklagjjimbhaa.V
open Go.ChangeShapes Go.WideShapes Go.ChangeAt Go.RowKit

theorem law : ∀ xs : List PV, All2 (WfV Try.prog 6) Try.f25.params.toList xs → ∃ n m S1, callF Try.prog env n 25 (xs.map (.pure false)) [] = some (.pure m (.bool true), S1) := by
  intro xs h
  have h' : All2 (WfV Try.prog 6) [25, 49, 49, 3] xs := h
  cases h' with
  | cons h1 t1 =>
    cases t1 with
    | cons h2 t2 =>
      cases t2 with
      | cons h3 t3 =>
        cases t3 with
        | cons h4 t4 =>
          cases t4
          obtain ⟨b, rfl, _⟩ := wfv_bytes h1
          obtain ⟨q, rfl, _⟩ := wfv_pkt h2
          obtain ⟨p, rfl, _⟩ := wfv_pkt h3
          obtain ⟨i, rfl, _⟩ := wfv_i64 h4
          obtain ⟨n, hn⟩ := replyKeeps_runs b q p i
          exact ⟨n, _, _, hn⟩

set_option maxRecDepth 100000 in
theorem lifted (os : Os) (started : os.Started) (H : Type) (enc : TypeId × Value → H) :
    ReturnsInHanded {} Try.checked os 25 .any (Rows.replyKeepsSpec.pre6 enc Try.prog Try.f25 Rows.replyKeepsRow.domain false) (Rows.replyKeepsSpec.post enc Try.prog Try.f25 false true false false) := by
  refine returnsInHanded_of_change_sized (C := Try.checked) own started (by kernel_rfl) Try.func25
    (ChangeSpec.witness6 (enc := enc) (C := Try.checked) false ⟨#[], #[.slice none 0 0, .agg #[.int .i64 0, .int .i64 0, .slice none 0 0], .agg #[.int .i64 0, .int .i64 0, .slice none 0 0], .int .i64 0], []⟩ 8 (by kernel_rfl) (by kernel_rfl) (by kernel_rfl) (by kernel_rfl)) ?_
  intro W base args ds gs before hval hW hcnd hsz _
  refine law_contract (N := 6) (rt := 4) envAll (fun _ => rfl) laidOut rfl rfl Try.underlying4 (by kernel_rfl) (by kernel_rfl) ?_ law W base args ds gs before hval hW hsz
  intro ds hl
  match ds, hl with
  | [d0, d1, d2, d3], _ => rfl

theorem j0 : Rows.replyKeepsRow.wf (OpenSpec.ofChange Rows.replyKeepsSpec) = true := by kernel_rfl
theorem j3 : Try.f25.params.all (Try.prog.readableRec ·) = true := by kernel_rfl
theorem j4 : namedTie Try.prog Rows.replyKeepsRow.named Rows.replyKeepsSpec.vars = true := by kernel_rfl
theorem j9 : (Rows.replyKeepsRow.inPlace == Try.prog.inPlace 25) = true := by kernel_rfl
theorem j10 : (Rows.replyKeepsRow.unfollowed == Try.prog.unfollowed 25) = true := by kernel_rfl
theorem j11 : (Rows.replyKeepsRow.recurses == Try.prog.recurses 25) = true := by kernel_rfl
theorem j12 : (Rows.replyKeepsRow.named == Try.prog.varsNamed 25) = true := by kernel_rfl
theorem hfn : Try.pinned.checked.prog.funcNamed Rows.replyKeepsRow.func = some 25 := by kernel_rfl
theorem joined : joinedFacts Try.pinned.checked.prog 25 Try.f25 Rows.replyKeepsSpec Rows.replyKeepsRow = true := by
  show joinedFacts Try.prog 25 Try.f25 Rows.replyKeepsSpec Rows.replyKeepsRow = true
  unfold joinedFacts
  simp only [Bool.and_eq_true]
  exact ⟨⟨⟨⟨⟨⟨⟨⟨⟨⟨⟨⟨⟨⟨⟨⟨⟨⟨⟨⟨⟨⟨⟨⟨⟨⟨⟨⟨⟨⟨⟨j0, y_laid⟩, y_maps⟩, j3⟩, j4⟩, by kernel_rfl⟩, y_stops⟩, by kernel_rfl⟩, y_knobs⟩, j9⟩, j10⟩, j11⟩, j12⟩, by kernel_rfl⟩, by kernel_rfl⟩, by kernel_rfl⟩, by kernel_rfl⟩, by kernel_rfl⟩, by kernel_rfl⟩, by kernel_rfl⟩, by kernel_rfl⟩, by kernel_rfl⟩, by rw [y_plain]; kernel_rfl⟩, by kernel_rfl⟩, y_heard⟩, y_enter⟩, by rw [y_lifts]; kernel_rfl⟩, by rw [y_make]; kernel_rfl⟩, by kernel_rfl⟩, by kernel_rfl⟩, by kernel_rfl⟩, by kernel_rfl⟩

theorem over : Rows.replyKeepsRow.holds Try.pinned (OpenSpec.ofChange Rows.replyKeepsSpec) :=
  OpenClaim.holds_of_wide 25 Try.f25 rfl rfl rfl rfl rfl rfl rfl ⟨rfl, rfl, rfl, rfl, rfl⟩ rfl rfl rfl rfl rfl hfn Try.func25 joined
    (of_decide_eq_true (by kernel_rfl)) (by unfold Func.isWrapper; first | (rw [if_pos (by decide +kernel)]; kernel_rfl) | (rw [if_neg (by decide +kernel)]; exact ⟨rfl, rfl⟩))
    (fun os started H enc _ => lifted os started H enc)
end Go.Proofs.Ytpgklagjjimbhaa.replyKeeps
namespace Go.Proofs.Ytpgklagjjimbhaa
theorem replyKeeps_holds : Rows.ReplyKeepsSaid := replyKeeps.over
#print axioms replyKeeps_holds
end Go.Proofs.Ytpgklagjjimbhaa
