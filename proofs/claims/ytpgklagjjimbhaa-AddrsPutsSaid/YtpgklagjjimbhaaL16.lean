/- AddrsPuts: for every number and all addresses the law answers true; no condition. -/
import Derived.Test.YtpgklagjjimbhaaAQ
import Derived.Test.YtpgklagjjimbhaaRows
import Derived.Test.YtpgklagjjimbhaaY
import Derived.WalkKit
import Derived.ProofKit
import Derived.OpenShut
import Derived.ShutString
import Derived.ChangeOld
import Derived.Below
import Derived.SizedLaws
set_option linter.unusedVariables false
set_option maxRecDepth 100000
namespace Go.Proofs.Ytpgklagjjimbhaa.addrsPuts
open Go Go.Proofs.Ytpgklagjjimbhaa.V
open Go.ChangeShapes Go.WideShapes Go.ChangeAt Go.RowKit

theorem law : ∀ xs : List PV, All2 (WfV Try.prog 6) Try.f16.params.toList xs → ∃ n m S1, callF Try.prog env n 16 (xs.map (.pure false)) [] = some (.pure m (.bool true), S1) := by
  intro xs h
  have h' : All2 (WfV Try.prog 6) [3, 75] xs := h
  cases h' with
  | cons h1 t1 =>
    cases t1 with
    | cons h2 t2 =>
      cases t2
      obtain ⟨p, rfl, _⟩ := wfv_i64 h1
      obtain ⟨a, rfl⟩ := wfv_adr h2
      obtain ⟨n, hn⟩ := addrsPuts_runs p a
      exact ⟨n, _, _, hn⟩

set_option maxRecDepth 100000 in
theorem lifted (os : Os) (started : os.Started) (H : Type) (enc : TypeId × Value → H) :
    ReturnsInHanded {} Try.checked os 16 .any (Rows.addrsPutsSpec.pre6 enc Try.prog Try.f16 Rows.addrsPutsRow.domain false) (Rows.addrsPutsSpec.post enc Try.prog Try.f16 false true false false) := by
  refine returnsInHanded_of_change_sized (C := Try.checked) own started (by kernel_rfl) Try.func16
    (ChangeSpec.witness6 (enc := enc) (C := Try.checked) false ⟨#[], #[.int .i64 0, .agg #[.bool false, .int .u8 0, .int .u8 0, .int .u8 0, .int .u8 0, .bool false, .int .i64 0, .bool false, .bool false, .bool false, .bool false, .bool false, .int .u8 0, .int .u8 0, .int .u8 0, .int .u8 0, .int .u8 0, .int .u8 0, .int .u8 0, .int .u8 0, .int .u8 0, .int .u8 0, .int .u8 0, .int .u8 0, .int .u8 0, .int .u8 0, .int .u8 0, .int .u8 0, .bool false, .int .u8 0, .int .u8 0, .int .u8 0, .int .u8 0, .int .u8 0, .int .u8 0, .int .u8 0, .int .u8 0]], []⟩ 8 (by kernel_rfl) (by kernel_rfl) (by kernel_rfl) (by kernel_rfl)) ?_
  intro W base args ds gs before hval hW hcnd hsz _
  refine law_contract (N := 6) (rt := 4) envAll (fun _ => rfl) laidOut rfl rfl Try.underlying4 (by kernel_rfl) (by kernel_rfl) ?_ law W base args ds gs before hval hW hsz
  intro ds hl
  match ds, hl with
  | [d0, d1], _ => rfl

theorem j0 : Rows.addrsPutsRow.wf (OpenSpec.ofChange Rows.addrsPutsSpec) = true := by kernel_rfl
theorem j3 : Try.f16.params.all (Try.prog.readableRec ·) = true := by kernel_rfl
theorem j4 : namedTie Try.prog Rows.addrsPutsRow.named Rows.addrsPutsSpec.vars = true := by kernel_rfl
theorem j9 : (Rows.addrsPutsRow.inPlace == Try.prog.inPlace 16) = true := by kernel_rfl
theorem j10 : (Rows.addrsPutsRow.unfollowed == Try.prog.unfollowed 16) = true := by kernel_rfl
theorem j11 : (Rows.addrsPutsRow.recurses == Try.prog.recurses 16) = true := by kernel_rfl
theorem j12 : (Rows.addrsPutsRow.named == Try.prog.varsNamed 16) = true := by kernel_rfl
theorem hfn : Try.pinned.checked.prog.funcNamed Rows.addrsPutsRow.func = some 16 := by kernel_rfl
theorem joined : joinedFacts Try.pinned.checked.prog 16 Try.f16 Rows.addrsPutsSpec Rows.addrsPutsRow = true := by
  show joinedFacts Try.prog 16 Try.f16 Rows.addrsPutsSpec Rows.addrsPutsRow = true
  unfold joinedFacts
  simp only [Bool.and_eq_true]
  exact ⟨⟨⟨⟨⟨⟨⟨⟨⟨⟨⟨⟨⟨⟨⟨⟨⟨⟨⟨⟨⟨⟨⟨⟨⟨⟨⟨⟨⟨⟨⟨j0, y_laid⟩, y_maps⟩, j3⟩, j4⟩, by kernel_rfl⟩, y_stops⟩, by kernel_rfl⟩, y_knobs⟩, j9⟩, j10⟩, j11⟩, j12⟩, by kernel_rfl⟩, by kernel_rfl⟩, by kernel_rfl⟩, by kernel_rfl⟩, by kernel_rfl⟩, by kernel_rfl⟩, by kernel_rfl⟩, by kernel_rfl⟩, by kernel_rfl⟩, by rw [y_plain]; kernel_rfl⟩, by kernel_rfl⟩, y_heard⟩, y_enter⟩, by rw [y_lifts]; kernel_rfl⟩, by rw [y_make]; kernel_rfl⟩, by kernel_rfl⟩, by kernel_rfl⟩, by kernel_rfl⟩, by kernel_rfl⟩

theorem over : Rows.addrsPutsRow.holds Try.pinned (OpenSpec.ofChange Rows.addrsPutsSpec) :=
  OpenClaim.holds_of_wide 16 Try.f16 rfl rfl rfl rfl rfl rfl rfl ⟨rfl, rfl, rfl, rfl, rfl⟩ rfl rfl rfl rfl rfl hfn Try.func16 joined
    (of_decide_eq_true (by kernel_rfl)) (by unfold Func.isWrapper; first | (rw [if_pos (by decide +kernel)]; kernel_rfl) | (rw [if_neg (by decide +kernel)]; exact ⟨rfl, rfl⟩))
    (fun os started H enc _ => lifted os started H enc)
end Go.Proofs.Ytpgklagjjimbhaa.addrsPuts
namespace Go.Proofs.Ytpgklagjjimbhaa
theorem addrsPuts_holds : Rows.AddrsPutsSaid := addrsPuts.over
#print axioms addrsPuts_holds
end Go.Proofs.Ytpgklagjjimbhaa
