/- AddrsReads: for every number and all options the law answers true; no condition. -/
import Derived.Test.YtpgklagjjimbhaaAG
import Derived.Test.YtpgklagjjimbhaaRows
import Derived.Test.YtpgklagjjimbhaaY
import Derived.WalkKit
import Derived.ProofKit
import Derived.OpenShut
import Derived.ShutString
import Derived.ChangeOld
import Derived.Below
import Derived.SizedLaws
set_option linter.unusedVariables false
set_option maxRecDepth 100000
namespace Go.Proofs.Ytpgklagjjimbhaa.addrsReads
open Go Go.Proofs.Ytpgklagjjimbhaa.V
open Go.ChangeShapes Go.WideShapes Go.ChangeAt Go.RowKit

theorem law : ∀ xs : List PV, All2 (WfV Try.prog 6) Try.f15.params.toList xs → ∃ n m S1, callF Try.prog env n 15 (xs.map (.pure false)) [] = some (.pure m (.bool true), S1) := by
  intro xs h
  have h' : All2 (WfV Try.prog 6) [3, 22] xs := h
  cases h' with
  | cons h1 t1 =>
    cases t1 with
    | cons h2 t2 =>
      cases t2
      obtain ⟨p, rfl, _⟩ := wfv_i64 h1
      obtain ⟨l, rfl, _⟩ := wfv_opts h2
      obtain ⟨n, hn⟩ := addrsReads_runs p l
      exact ⟨n, _, _, hn⟩

set_option maxRecDepth 100000 in
theorem lifted (os : Os) (started : os.Started) (H : Type) (enc : TypeId × Value → H) :
    ReturnsInHanded {} Try.checked os 15 .any (Rows.addrsReadsSpec.pre6 enc Try.prog Try.f15 Rows.addrsReadsRow.domain false) (Rows.addrsReadsSpec.post enc Try.prog Try.f15 false true false false) := by
  refine returnsInHanded_of_change_sized (C := Try.checked) own started (by kernel_rfl) Try.func15
    (ChangeSpec.witness6 (enc := enc) (C := Try.checked) false ⟨#[], #[.int .i64 0, .slice none 0 0], []⟩ 8 (by kernel_rfl) (by kernel_rfl) (by kernel_rfl) (by kernel_rfl)) ?_
  intro W base args ds gs before hval hW hcnd hsz _
  refine law_contract (N := 6) (rt := 4) envAll (fun _ => rfl) laidOut rfl rfl Try.underlying4 (by kernel_rfl) (by kernel_rfl) ?_ law W base args ds gs before hval hW hsz
  intro ds hl
  match ds, hl with
  | [d0, d1], _ => rfl

theorem j0 : Rows.addrsReadsRow.wf (OpenSpec.ofChange Rows.addrsReadsSpec) = true := by kernel_rfl
theorem j3 : Try.f15.params.all (Try.prog.readableRec ·) = true := by kernel_rfl
theorem j4 : namedTie Try.prog Rows.addrsReadsRow.named Rows.addrsReadsSpec.vars = true := by kernel_rfl
theorem j9 : (Rows.addrsReadsRow.inPlace == Try.prog.inPlace 15) = true := by kernel_rfl
theorem j10 : (Rows.addrsReadsRow.unfollowed == Try.prog.unfollowed 15) = true := by kernel_rfl
theorem j11 : (Rows.addrsReadsRow.recurses == Try.prog.recurses 15) = true := by kernel_rfl
theorem j12 : (Rows.addrsReadsRow.named == Try.prog.varsNamed 15) = true := by kernel_rfl
theorem hfn : Try.pinned.checked.prog.funcNamed Rows.addrsReadsRow.func = some 15 := by kernel_rfl
theorem joined : joinedFacts Try.pinned.checked.prog 15 Try.f15 Rows.addrsReadsSpec Rows.addrsReadsRow = true := by
  show joinedFacts Try.prog 15 Try.f15 Rows.addrsReadsSpec Rows.addrsReadsRow = true
  unfold joinedFacts
  simp only [Bool.and_eq_true]
  exact ⟨⟨⟨⟨⟨⟨⟨⟨⟨⟨⟨⟨⟨⟨⟨⟨⟨⟨⟨⟨⟨⟨⟨⟨⟨⟨⟨⟨⟨⟨⟨j0, y_laid⟩, y_maps⟩, j3⟩, j4⟩, by kernel_rfl⟩, y_stops⟩, by kernel_rfl⟩, y_knobs⟩, j9⟩, j10⟩, j11⟩, j12⟩, by kernel_rfl⟩, by kernel_rfl⟩, by kernel_rfl⟩, by kernel_rfl⟩, by kernel_rfl⟩, by kernel_rfl⟩, by kernel_rfl⟩, by kernel_rfl⟩, by kernel_rfl⟩, by rw [y_plain]; kernel_rfl⟩, by kernel_rfl⟩, y_heard⟩, y_enter⟩, by rw [y_lifts]; kernel_rfl⟩, by rw [y_make]; kernel_rfl⟩, by kernel_rfl⟩, by kernel_rfl⟩, by kernel_rfl⟩, by kernel_rfl⟩

theorem over : Rows.addrsReadsRow.holds Try.pinned (OpenSpec.ofChange Rows.addrsReadsSpec) :=
  OpenClaim.holds_of_wide 15 Try.f15 rfl rfl rfl rfl rfl rfl rfl ⟨rfl, rfl, rfl, rfl, rfl⟩ rfl rfl rfl rfl rfl hfn Try.func15 joined
    (of_decide_eq_true (by kernel_rfl)) (by unfold Func.isWrapper; first | (rw [if_pos (by decide +kernel)]; kernel_rfl) | (rw [if_neg (by decide +kernel)]; exact ⟨rfl, rfl⟩))
    (fun os started H enc _ => lifted os started H enc)
end Go.Proofs.Ytpgklagjjimbhaa.addrsReads
namespace Go.Proofs.Ytpgklagjjimbhaa
theorem addrsReads_holds : Rows.AddrsReadsSaid := addrsReads.over
#print axioms addrsReads_holds
end Go.Proofs.Ytpgklagjjimbhaa
