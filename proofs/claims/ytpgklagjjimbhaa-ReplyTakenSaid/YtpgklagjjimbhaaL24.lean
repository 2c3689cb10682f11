/- ReplyTaken: for all options, every two numbers and every option the law answers true; no condition. -/
import Derived.Test.YtpgklagjjimbhaaWF
import Derived.Test.YtpgklagjjimbhaaRows
import Derived.Test.YtpgklagjjimbhaaY
import Derived.WalkKit
import Derived.ProofKit
import Derived.OpenShut
import Derived.ShutString
import Derived.ChangeOld
import Derived.Below
import Derived.SizedLaws
set_option linter.unusedVariables false
set_option maxRecDepth 100000
namespace Go.Proofs.Ytpgklagjjimbhaa.replyTaken
open Go Go.Proofs.Ytpgklagjjimbhaa.V
open Go.ChangeShapes Go.WideShapes Go.ChangeAt Go.RowKit

theorem law : ∀ xs : List PV, All2 (WfV Try.prog 6) Try.f24.params.toList xs → ∃ n m S1, callF Try.prog env n 24 (xs.map (.pure false)) [] = some (.pure m (.bool true), S1) := by
  intro xs h
  have h' : All2 (WfV Try.prog 6) [22, 44, 5, 42] xs := h
  cases h' with
  | cons h1 t1 =>
    cases t1 with
    | cons h2 t2 =>
      cases t2 with
      | cons h3 t3 =>
        cases t3 with
        | cons h4 t4 =>
          cases t4
          obtain ⟨l, rfl, _⟩ := wfv_opts h1
          obtain ⟨k, rfl, hk⟩ := wfv_u64 h2
          obtain ⟨c, rfl⟩ := wfv_u8 h3
          obtain ⟨o, rfl, _⟩ := wfv_opt h4
          obtain ⟨n, hn⟩ := replyTaken_runs l k hk c o
          exact ⟨n, _, _, hn⟩

set_option maxRecDepth 100000 in
theorem lifted (os : Os) (started : os.Started) (H : Type) (enc : TypeId × Value → H) :
    ReturnsInHanded {} Try.checked os 24 .any (Rows.replyTakenSpec.pre6 enc Try.prog Try.f24 Rows.replyTakenRow.domain false) (Rows.replyTakenSpec.post enc Try.prog Try.f24 false true false false) := by
  refine returnsInHanded_of_change_sized (C := Try.checked) own started (by kernel_rfl) Try.func24
    (ChangeSpec.witness6 (enc := enc) (C := Try.checked) false ⟨#[], #[.slice none 0 0, .int .u64 0, .int .u8 0, .agg #[.int .i64 0, .slice none 0 0]], []⟩ 8 (by kernel_rfl) (by kernel_rfl) (by kernel_rfl) (by kernel_rfl)) ?_
  intro W base args ds gs before hval hW hcnd hsz _
  refine law_contract (N := 6) (rt := 4) envAll (fun _ => rfl) laidOut rfl rfl Try.underlying4 (by kernel_rfl) (by kernel_rfl) ?_ law W base args ds gs before hval hW hsz
  intro ds hl
  match ds, hl with
  | [d0, d1, d2, d3], _ => rfl

theorem j0 : Rows.replyTakenRow.wf (OpenSpec.ofChange Rows.replyTakenSpec) = true := by kernel_rfl
theorem j3 : Try.f24.params.all (Try.prog.readableRec ·) = true := by kernel_rfl
theorem j4 : namedTie Try.prog Rows.replyTakenRow.named Rows.replyTakenSpec.vars = true := by kernel_rfl
theorem j9 : (Rows.replyTakenRow.inPlace == Try.prog.inPlace 24) = true := by kernel_rfl
theorem j10 : (Rows.replyTakenRow.unfollowed == Try.prog.unfollowed 24) = true := by kernel_rfl
theorem j11 : (Rows.replyTakenRow.recurses == Try.prog.recurses 24) = true := by kernel_rfl
theorem j12 : (Rows.replyTakenRow.named == Try.prog.varsNamed 24) = true := by kernel_rfl
theorem hfn : Try.pinned.checked.prog.funcNamed Rows.replyTakenRow.func = some 24 := by kernel_rfl
theorem joined : joinedFacts Try.pinned.checked.prog 24 Try.f24 Rows.replyTakenSpec Rows.replyTakenRow = true := by
  show joinedFacts Try.prog 24 Try.f24 Rows.replyTakenSpec Rows.replyTakenRow = true
  unfold joinedFacts
  simp only [Bool.and_eq_true]
  exact ⟨⟨⟨⟨⟨⟨⟨⟨⟨⟨⟨⟨⟨⟨⟨⟨⟨⟨⟨⟨⟨⟨⟨⟨⟨⟨⟨⟨⟨⟨⟨j0, y_laid⟩, y_maps⟩, j3⟩, j4⟩, by kernel_rfl⟩, y_stops⟩, by kernel_rfl⟩, y_knobs⟩, j9⟩, j10⟩, j11⟩, j12⟩, by kernel_rfl⟩, by kernel_rfl⟩, by kernel_rfl⟩, by kernel_rfl⟩, by kernel_rfl⟩, by kernel_rfl⟩, by kernel_rfl⟩, by kernel_rfl⟩, by kernel_rfl⟩, by rw [y_plain]; kernel_rfl⟩, by kernel_rfl⟩, y_heard⟩, y_enter⟩, by rw [y_lifts]; kernel_rfl⟩, by rw [y_make]; kernel_rfl⟩, by kernel_rfl⟩, by kernel_rfl⟩, by kernel_rfl⟩, by kernel_rfl⟩

theorem over : Rows.replyTakenRow.holds Try.pinned (OpenSpec.ofChange Rows.replyTakenSpec) :=
  OpenClaim.holds_of_wide 24 Try.f24 rfl rfl rfl rfl rfl rfl rfl ⟨rfl, rfl, rfl, rfl, rfl⟩ rfl rfl rfl rfl rfl hfn Try.func24 joined
    (of_decide_eq_true (by kernel_rfl)) (by unfold Func.isWrapper; first | (rw [if_pos (by decide +kernel)]; kernel_rfl) | (rw [if_neg (by decide +kernel)]; exact ⟨rfl, rfl⟩))
    (fun os started H enc _ => lifted os started H enc)
end Go.Proofs.Ytpgklagjjimbhaa.replyTaken
namespace Go.Proofs.Ytpgklagjjimbhaa
theorem replyTaken_holds : Rows.ReplyTakenSaid := replyTaken.over
#print axioms replyTaken_holds
end Go.Proofs.Ytpgklagjjimbhaa
