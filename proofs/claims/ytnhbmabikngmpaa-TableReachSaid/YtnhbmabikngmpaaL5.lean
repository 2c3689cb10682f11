/- TableReach: for every number the law answers true; no condition. -/
import Derived.Test.YtnhbmabikngmpaaF
import Derived.Test.YtnhbmabikngmpaaRows
import Derived.Test.YtnhbmabikngmpaaY
import Derived.WalkKit
import Derived.ProofKit
import Derived.OpenShut
import Derived.ShutString
import Derived.ChangeOld
import Derived.Below
import Derived.SizedLaws
set_option linter.unusedVariables false
set_option maxRecDepth 100000
namespace Go.Proofs.Ytnhbmabikngmpaa.tableReach
open Go Go.Proofs.Ytnhbmabikngmpaa.V
open Go.ChangeShapes Go.WideShapes Go.ChangeAt Go.RowKit

theorem law : ∀ xs : List PV, All2 (WfV Try.prog 6) Try.f5.params.toList xs → ∃ n m S1, callF Try.prog env n 5 (xs.map (.pure false)) [] = some (.pure m (.bool true), S1) := by
  intro xs h
  have h' : All2 (WfV Try.prog 6) [5] xs := h
  cases h' with
  | cons h1 t1 =>
    cases t1
    obtain ⟨c, rfl⟩ := wfv_u8 h1
    obtain ⟨n, hn⟩ := tableReach_runs c
    exact ⟨n, _, _, hn⟩

set_option maxRecDepth 100000 in
theorem lifted (os : Os) (started : os.Started) (H : Type) (enc : TypeId × Value → H) :
    ReturnsInHanded {} Try.checked os 5 .any (Rows.tableReachSpec.pre6 enc Try.prog Try.f5 Rows.tableReachRow.domain false) (Rows.tableReachSpec.post enc Try.prog Try.f5 false true false false) := by
  refine returnsInHanded_of_change_sized (C := Try.checked) own started (by kernel_rfl) Try.func5
    (ChangeSpec.witness6 (enc := enc) (C := Try.checked) false ⟨#[], #[.int .u8 0], []⟩ 8 (by kernel_rfl) (by kernel_rfl) (by kernel_rfl) (by kernel_rfl)) ?_
  intro W base args ds gs before hval hW hcnd hsz _
  refine law_contract (N := 6) (rt := 4) envAll (fun _ => rfl) laidOut rfl rfl Try.underlying4 (by kernel_rfl) (by kernel_rfl) ?_ law W base args ds gs before hval hW hsz
  intro ds hl
  match ds, hl with
  | [d0], _ => rfl

theorem j0 : Rows.tableReachRow.wf (OpenSpec.ofChange Rows.tableReachSpec) = true := by kernel_rfl
theorem j3 : Try.f5.params.all (Try.prog.readableRec ·) = true := by kernel_rfl
theorem j4 : namedTie Try.prog Rows.tableReachRow.named Rows.tableReachSpec.vars = true := by kernel_rfl
theorem j9 : (Rows.tableReachRow.inPlace == Try.prog.inPlace 5) = true := by kernel_rfl
theorem j10 : (Rows.tableReachRow.unfollowed == Try.prog.unfollowed 5) = true := by kernel_rfl
theorem j11 : (Rows.tableReachRow.recurses == Try.prog.recurses 5) = true := by kernel_rfl
theorem j12 : (Rows.tableReachRow.named == Try.prog.varsNamed 5) = true := by kernel_rfl
theorem hfn : Try.pinned.checked.prog.funcNamed Rows.tableReachRow.func = some 5 := by kernel_rfl
theorem joined : joinedFacts Try.pinned.checked.prog 5 Try.f5 Rows.tableReachSpec Rows.tableReachRow = true := by
  show joinedFacts Try.prog 5 Try.f5 Rows.tableReachSpec Rows.tableReachRow = true
  unfold joinedFacts
  simp only [Bool.and_eq_true]
  exact ⟨⟨⟨⟨⟨⟨⟨⟨⟨⟨⟨⟨⟨⟨⟨⟨⟨⟨⟨⟨⟨⟨⟨⟨⟨⟨⟨⟨⟨⟨⟨j0, y_laid⟩, y_maps⟩, j3⟩, j4⟩, by kernel_rfl⟩, y_stops⟩, by kernel_rfl⟩, y_knobs⟩, j9⟩, j10⟩, j11⟩, j12⟩, by kernel_rfl⟩, by kernel_rfl⟩, by kernel_rfl⟩, by kernel_rfl⟩, by kernel_rfl⟩, by kernel_rfl⟩, by kernel_rfl⟩, by kernel_rfl⟩, by kernel_rfl⟩, by rw [y_plain]; kernel_rfl⟩, by kernel_rfl⟩, y_heard⟩, y_enter⟩, by rw [y_lifts]; kernel_rfl⟩, by rw [y_make]; kernel_rfl⟩, by kernel_rfl⟩, by kernel_rfl⟩, by kernel_rfl⟩, by kernel_rfl⟩

theorem over : Rows.tableReachRow.holds Try.pinned (OpenSpec.ofChange Rows.tableReachSpec) :=
  OpenClaim.holds_of_wide 5 Try.f5 rfl rfl rfl rfl rfl rfl rfl ⟨rfl, rfl, rfl, rfl, rfl⟩ rfl rfl rfl rfl rfl hfn Try.func5 joined
    (of_decide_eq_true (by kernel_rfl)) (by unfold Func.isWrapper; first | (rw [if_pos (by decide +kernel)]; kernel_rfl) | (rw [if_neg (by decide +kernel)]; exact ⟨rfl, rfl⟩))
    (fun os started H enc _ => lifted os started H enc)
end Go.Proofs.Ytnhbmabikngmpaa.tableReach
namespace Go.Proofs.Ytnhbmabikngmpaa
theorem tableReach_holds : Rows.TableReachSaid := tableReach.over
#print axioms tableReach_holds
end Go.Proofs.Ytnhbmabikngmpaa
