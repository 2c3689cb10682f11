/- AddrsBad: for every number and all options the law answers true; no condition. -/
import Derived.Test.YtpgklagjjimbhaaAI
import Derived.Test.YtpgklagjjimbhaaRows
import Derived.Test.YtpgklagjjimbhaaY
import Derived.WalkKit
import Derived.ProofKit
import Derived.OpenShut
import Derived.ShutString
import Derived.ChangeOld
import Derived.Below
import Derived.SizedLaws
set_option linter.unusedVariables false
set_option maxRecDepth 100000
namespace Go.Proofs.Ytpgklagjjimbhaa.addrsBad
open Go Go.Proofs.Ytpgklagjjimbhaa.V
open Go.ChangeShapes Go.WideShapes Go.ChangeAt Go.RowKit

theorem law : ∀ xs : List PV, All2 (WfV Try.prog 6) Try.f17.params.toList xs → ∃ n m S1, callF Try.prog env n 17 (xs.map (.pure false)) [] = some (.pure m (.bool true), S1) := by
  intro xs h
  have h' : All2 (WfV Try.prog 6) [3, 22] xs := h
  cases h' with
  | cons h1 t1 =>
    cases t1 with
    | cons h2 t2 =>
      cases t2
      obtain ⟨p, rfl, _⟩ := wfv_i64 h1
      obtain ⟨l, rfl, _⟩ := wfv_opts h2
      obtain ⟨n, hn⟩ := addrsBad_runs p l
      exact ⟨n, _, _, hn⟩

set_option maxRecDepth 100000 in
theorem lifted (os : Os) (started : os.Started) (H : Type) (enc : TypeId × Value → H) :
    ReturnsInHanded {} Try.checked os 17 .any (Rows.addrsBadSpec.pre6 enc Try.prog Try.f17 Rows.addrsBadRow.domain false) (Rows.addrsBadSpec.post enc Try.prog Try.f17 false true false false) := by
  refine returnsInHanded_of_change_sized (C := Try.checked) own started (by kernel_rfl) Try.func17
    (ChangeSpec.witness6 (enc := enc) (C := Try.checked) false ⟨#[], #[.int .i64 0, .slice none 0 0], []⟩ 8 (by kernel_rfl) (by kernel_rfl) (by kernel_rfl) (by kernel_rfl)) ?_
  intro W base args ds gs before hval hW hcnd hsz _
  refine law_contract (N := 6) (rt := 4) envAll (fun _ => rfl) laidOut rfl rfl Try.underlying4 (by kernel_rfl) (by kernel_rfl) ?_ law W base args ds gs before hval hW hsz
  intro ds hl
  match ds, hl with
  | [d0, d1], _ => rfl

theorem j0 : Rows.addrsBadRow.wf (OpenSpec.ofChange Rows.addrsBadSpec) = true := by kernel_rfl
theorem j3 : Try.f17.params.all (Try.prog.readableRec ·) = true := by kernel_rfl
theorem j4 : namedTie Try.prog Rows.addrsBadRow.named Rows.addrsBadSpec.vars = true := by kernel_rfl
theorem j9 : (Rows.addrsBadRow.inPlace == Try.prog.inPlace 17) = true := by kernel_rfl
theorem j10 : (Rows.addrsBadRow.unfollowed == Try.prog.unfollowed 17) = true := by kernel_rfl
theorem j11 : (Rows.addrsBadRow.recurses == Try.prog.recurses 17) = true := by kernel_rfl
theorem j12 : (Rows.addrsBadRow.named == Try.prog.varsNamed 17) = true := by kernel_rfl
theorem hfn : Try.pinned.checked.prog.funcNamed Rows.addrsBadRow.func = some 17 := by kernel_rfl
theorem joined : joinedFacts Try.pinned.checked.prog 17 Try.f17 Rows.addrsBadSpec Rows.addrsBadRow = true := by
  show joinedFacts Try.prog 17 Try.f17 Rows.addrsBadSpec Rows.addrsBadRow = true
  unfold joinedFacts
  simp only [Bool.and_eq_true]
  exact ⟨⟨⟨⟨⟨⟨⟨⟨⟨⟨⟨⟨⟨⟨⟨⟨⟨⟨⟨⟨⟨⟨⟨⟨⟨⟨⟨⟨⟨⟨⟨j0, y_laid⟩, y_maps⟩, j3⟩, j4⟩, by kernel_rfl⟩, y_stops⟩, by kernel_rfl⟩, y_knobs⟩, j9⟩, j10⟩, j11⟩, j12⟩, by kernel_rfl⟩, by kernel_rfl⟩, by kernel_rfl⟩, by kernel_rfl⟩, by kernel_rfl⟩, by kernel_rfl⟩, by kernel_rfl⟩, by kernel_rfl⟩, by kernel_rfl⟩, by rw [y_plain]; kernel_rfl⟩, by kernel_rfl⟩, y_heard⟩, y_enter⟩, by rw [y_lifts]; kernel_rfl⟩, by rw [y_make]; kernel_rfl⟩, by kernel_rfl⟩, by kernel_rfl⟩, by kernel_rfl⟩, by kernel_rfl⟩

theorem over : Rows.addrsBadRow.holds Try.pinned (OpenSpec.ofChange Rows.addrsBadSpec) :=
  OpenClaim.holds_of_wide 17 Try.f17 rfl rfl rfl rfl rfl rfl rfl ⟨rfl, rfl, rfl, rfl, rfl⟩ rfl rfl rfl rfl rfl hfn Try.func17 joined
    (of_decide_eq_true (by kernel_rfl)) (by unfold Func.isWrapper; first | (rw [if_pos (by decide +kernel)]; kernel_rfl) | (rw [if_neg (by decide +kernel)]; exact ⟨rfl, rfl⟩))
    (fun os started H enc _ => lifted os started H enc)
end Go.Proofs.Ytpgklagjjimbhaa.addrsBad
namespace Go.Proofs.Ytpgklagjjimbhaa
theorem addrsBad_holds : Rows.AddrsBadSaid := addrsBad.over
#print axioms addrsBad_holds
end Go.Proofs.Ytpgklagjjimbhaa
