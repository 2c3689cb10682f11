/- PacketGets: for all bytes the law answers true; no condition. -/
import Derived.Test.YtpgklagjjimbhaaQ
import Derived.Test.YtpgklagjjimbhaaRows
import Derived.Test.YtpgklagjjimbhaaY
import Derived.WalkKit
import Derived.ProofKit
import Derived.OpenShut
import Derived.ShutString
import Derived.ChangeOld
import Derived.Below
import Derived.SizedLaws
set_option linter.unusedVariables false
set_option maxRecDepth 100000
namespace Go.Proofs.Ytpgklagjjimbhaa.packetGets
open Go Go.Proofs.Ytpgklagjjimbhaa.V
open Go.ChangeShapes Go.WideShapes Go.ChangeAt Go.RowKit

theorem law : ∀ xs : List PV, All2 (WfV Try.prog 6) Try.f10.params.toList xs → ∃ n m S1, callF Try.prog env n 10 (xs.map (.pure false)) [] = some (.pure m (.bool true), S1) := by
  intro xs h
  have h' : All2 (WfV Try.prog 6) [25] xs := h
  cases h' with
  | cons h1 t1 =>
    cases t1
    obtain ⟨b, rfl, _⟩ := wfv_bytes h1
    obtain ⟨n, hn⟩ := packetGets_runs b
    exact ⟨n, _, _, hn⟩

set_option maxRecDepth 100000 in
theorem lifted (os : Os) (started : os.Started) (H : Type) (enc : TypeId × Value → H) :
    ReturnsInHanded {} Try.checked os 10 .any (Rows.packetGetsSpec.pre6 enc Try.prog Try.f10 Rows.packetGetsRow.domain false) (Rows.packetGetsSpec.post enc Try.prog Try.f10 false true false false) := by
  refine returnsInHanded_of_change_sized (C := Try.checked) own started (by kernel_rfl) Try.func10
    (ChangeSpec.witness6 (enc := enc) (C := Try.checked) false ⟨#[], #[.slice none 0 0], []⟩ 8 (by kernel_rfl) (by kernel_rfl) (by kernel_rfl) (by kernel_rfl)) ?_
  intro W base args ds gs before hval hW hcnd hsz _
  refine law_contract (N := 6) (rt := 4) envAll (fun _ => rfl) laidOut rfl rfl Try.underlying4 (by kernel_rfl) (by kernel_rfl) ?_ law W base args ds gs before hval hW hsz
  intro ds hl
  match ds, hl with
  | [d0], _ => rfl

theorem j0 : Rows.packetGetsRow.wf (OpenSpec.ofChange Rows.packetGetsSpec) = true := by kernel_rfl
theorem j3 : Try.f10.params.all (Try.prog.readableRec ·) = true := by kernel_rfl
theorem j4 : namedTie Try.prog Rows.packetGetsRow.named Rows.packetGetsSpec.vars = true := by kernel_rfl
theorem j9 : (Rows.packetGetsRow.inPlace == Try.prog.inPlace 10) = true := by kernel_rfl
theorem j10 : (Rows.packetGetsRow.unfollowed == Try.prog.unfollowed 10) = true := by kernel_rfl
theorem j11 : (Rows.packetGetsRow.recurses == Try.prog.recurses 10) = true := by kernel_rfl
theorem j12 : (Rows.packetGetsRow.named == Try.prog.varsNamed 10) = true := by kernel_rfl
theorem hfn : Try.pinned.checked.prog.funcNamed Rows.packetGetsRow.func = some 10 := by kernel_rfl
theorem joined : joinedFacts Try.pinned.checked.prog 10 Try.f10 Rows.packetGetsSpec Rows.packetGetsRow = true := by
  show joinedFacts Try.prog 10 Try.f10 Rows.packetGetsSpec Rows.packetGetsRow = true
  unfold joinedFacts
  simp only [Bool.and_eq_true]
  exact ⟨⟨⟨⟨⟨⟨⟨⟨⟨⟨⟨⟨⟨⟨⟨⟨⟨⟨⟨⟨⟨⟨⟨⟨⟨⟨⟨⟨⟨⟨⟨j0, y_laid⟩, y_maps⟩, j3⟩, j4⟩, by kernel_rfl⟩, y_stops⟩, by kernel_rfl⟩, y_knobs⟩, j9⟩, j10⟩, j11⟩, j12⟩, by kernel_rfl⟩, by kernel_rfl⟩, by kernel_rfl⟩, by kernel_rfl⟩, by kernel_rfl⟩, by kernel_rfl⟩, by kernel_rfl⟩, by kernel_rfl⟩, by kernel_rfl⟩, by rw [y_plain]; kernel_rfl⟩, by kernel_rfl⟩, y_heard⟩, y_enter⟩, by rw [y_lifts]; kernel_rfl⟩, by rw [y_make]; kernel_rfl⟩, by kernel_rfl⟩, by kernel_rfl⟩, by kernel_rfl⟩, by kernel_rfl⟩

theorem over : Rows.packetGetsRow.holds Try.pinned (OpenSpec.ofChange Rows.packetGetsSpec) :=
  OpenClaim.holds_of_wide 10 Try.f10 rfl rfl rfl rfl rfl rfl rfl ⟨rfl, rfl, rfl, rfl, rfl⟩ rfl rfl rfl rfl rfl hfn Try.func10 joined
    (of_decide_eq_true (by kernel_rfl)) (by unfold Func.isWrapper; first | (rw [if_pos (by decide +kernel)]; kernel_rfl) | (rw [if_neg (by decide +kernel)]; exact ⟨rfl, rfl⟩))
    (fun os started H enc _ => lifted os started H enc)
end Go.Proofs.Ytpgklagjjimbhaa.packetGets
namespace Go.Proofs.Ytpgklagjjimbhaa
theorem packetGets_holds : Rows.PacketGetsSaid := packetGets.over
#print axioms packetGets_holds
end Go.Proofs.Ytpgklagjjimbhaa
