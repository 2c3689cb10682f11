/- PacketKeeps: for all bytes the law answers true; no condition. -/
import Derived.Test.YtpgklagjjimbhaaR
import Derived.Test.YtpgklagjjimbhaaRows
import Derived.Test.YtpgklagjjimbhaaY
import Derived.WalkKit
import Derived.ProofKit
import Derived.OpenShut
import Derived.ShutString
import Derived.ChangeOld
import Derived.Below
import Derived.SizedLaws
set_option linter.unusedVariables false
set_option maxRecDepth 100000
namespace Go.Proofs.Ytpgklagjjimbhaa.packetKeeps
open Go Go.Proofs.Ytpgklagjjimbhaa.V
open Go.ChangeShapes Go.WideShapes Go.ChangeAt Go.RowKit

theorem law : ∀ xs : List PV, All2 (WfV Try.prog 6) Try.f13.params.toList xs → ∃ n m S1, callF Try.prog env n 13 (xs.map (.pure false)) [] = some (.pure m (.bool true), S1) := by
  intro xs h
  have h' : All2 (WfV Try.prog 6) [25] xs := h
  cases h' with
  | cons h1 t1 =>
    cases t1
    obtain ⟨b, rfl, _⟩ := wfv_bytes h1
    obtain ⟨n, hn⟩ := packetKeeps_runs b
    exact ⟨n, _, _, hn⟩

set_option maxRecDepth 100000 in
theorem lifted (os : Os) (started : os.Started) (H : Type) (enc : TypeId × Value → H) :
    ReturnsInHanded {} Try.checked os 13 .any (Rows.packetKeepsSpec.pre6 enc Try.prog Try.f13 Rows.packetKeepsRow.domain false) (Rows.packetKeepsSpec.post enc Try.prog Try.f13 false true false false) := by
  refine returnsInHanded_of_change_sized (C := Try.checked) own started (by kernel_rfl) Try.func13
    (ChangeSpec.witness6 (enc := enc) (C := Try.checked) false ⟨#[], #[.slice none 0 0], []⟩ 8 (by kernel_rfl) (by kernel_rfl) (by kernel_rfl) (by kernel_rfl)) ?_
  intro W base args ds gs before hval hW hcnd hsz _
  refine law_contract (N := 6) (rt := 4) envAll (fun _ => rfl) laidOut rfl rfl Try.underlying4 (by kernel_rfl) (by kernel_rfl) ?_ law W base args ds gs before hval hW hsz
  intro ds hl
  match ds, hl with
  | [d0], _ => rfl

theorem j0 : Rows.packetKeepsRow.wf (OpenSpec.ofChange Rows.packetKeepsSpec) = true := by kernel_rfl
theorem j3 : Try.f13.params.all (Try.prog.readableRec ·) = true := by kernel_rfl
theorem j4 : namedTie Try.prog Rows.packetKeepsRow.named Rows.packetKeepsSpec.vars = true := by kernel_rfl
theorem j9 : (Rows.packetKeepsRow.inPlace == Try.prog.inPlace 13) = true := by kernel_rfl
theorem j10 : (Rows.packetKeepsRow.unfollowed == Try.prog.unfollowed 13) = true := by kernel_rfl
theorem j11 : (Rows.packetKeepsRow.recurses == Try.prog.recurses 13) = true := by kernel_rfl
theorem j12 : (Rows.packetKeepsRow.named == Try.prog.varsNamed 13) = true := by kernel_rfl
theorem hfn : Try.pinned.checked.prog.funcNamed Rows.packetKeepsRow.func = some 13 := by kernel_rfl
theorem joined : joinedFacts Try.pinned.checked.prog 13 Try.f13 Rows.packetKeepsSpec Rows.packetKeepsRow = true := by
  show joinedFacts Try.prog 13 Try.f13 Rows.packetKeepsSpec Rows.packetKeepsRow = true
  unfold joinedFacts
  simp only [Bool.and_eq_true]
  exact ⟨⟨⟨⟨⟨⟨⟨⟨⟨⟨⟨⟨⟨⟨⟨⟨⟨⟨⟨⟨⟨⟨⟨⟨⟨⟨⟨⟨⟨⟨⟨j0, y_laid⟩, y_maps⟩, j3⟩, j4⟩, by kernel_rfl⟩, y_stops⟩, by kernel_rfl⟩, y_knobs⟩, j9⟩, j10⟩, j11⟩, j12⟩, by kernel_rfl⟩, by kernel_rfl⟩, by kernel_rfl⟩, by kernel_rfl⟩, by kernel_rfl⟩, by kernel_rfl⟩, by kernel_rfl⟩, by kernel_rfl⟩, by kernel_rfl⟩, by rw [y_plain]; kernel_rfl⟩, by kernel_rfl⟩, y_heard⟩, y_enter⟩, by rw [y_lifts]; kernel_rfl⟩, by rw [y_make]; kernel_rfl⟩, by kernel_rfl⟩, by kernel_rfl⟩, by kernel_rfl⟩, by kernel_rfl⟩

theorem over : Rows.packetKeepsRow.holds Try.pinned (OpenSpec.ofChange Rows.packetKeepsSpec) :=
  OpenClaim.holds_of_wide 13 Try.f13 rfl rfl rfl rfl rfl rfl rfl ⟨rfl, rfl, rfl, rfl, rfl⟩ rfl rfl rfl rfl rfl hfn Try.func13 joined
    (of_decide_eq_true (by kernel_rfl)) (by unfold Func.isWrapper; first | (rw [if_pos (by decide +kernel)]; kernel_rfl) | (rw [if_neg (by decide +kernel)]; exact ⟨rfl, rfl⟩))
    (fun os started H enc _ => lifted os started H enc)
end Go.Proofs.Ytpgklagjjimbhaa.packetKeeps
namespace Go.Proofs.Ytpgklagjjimbhaa
theorem packetKeeps_holds : Rows.PacketKeepsSaid := packetKeeps.over
#print axioms packetKeeps_holds
end Go.Proofs.Ytpgklagjjimbhaa
