/- CellsReach: for every two counts and every picks the law answers true; no condition. -/
import Derived.Test.YticdhmcbooabaaaZB
import Derived.Test.YticdhmcbooabaaaRows
import Derived.Test.YticdhmcbooabaaaY
import Derived.WalkKit
import Derived.ProofKit
import Derived.OpenShut
import Derived.ShutString
import Derived.ChangeOld
import Derived.Below
import Derived.SizedLaws
set_option linter.unusedVariables false
set_option maxRecDepth 100000
namespace Go.Proofs.Yticdhmcbooabaaa.cellsReach
open Go Go.Proofs.Yticdhmcbooabaaa.V
open Go.ChangeShapes Go.WideShapes Go.ChangeAt Go.RowKit

theorem law : ∀ xs : List PV, All2 (WfV Try.prog 6) Try.f3.params.toList xs → ∃ n m S1, callF Try.prog env n 3 (xs.map (.pure false)) [] = some (.pure m (.bool true), S1) := by
  intro xs h
  have h' : All2 (WfV Try.prog 6) [5, 5, 22] xs := h
  cases h' with
  | cons h1 t1 =>
    cases t1 with
    | cons h2 t2 =>
      cases t2 with
      | cons h3 t3 =>
        cases t3
        obtain ⟨a, rfl⟩ := wfv_u8 h1
        obtain ⟨b, rfl⟩ := wfv_u8 h2
        obtain ⟨q, rfl, hq⟩ := wfv_picks h3
        obtain ⟨n, hn⟩ := cellsReach_runs a b q hq
        exact ⟨n, _, _, hn⟩

set_option maxRecDepth 100000 in
theorem lifted (os : Os) (started : os.Started) (H : Type) (enc : TypeId × Value → H) :
    ReturnsInHanded {} Try.checked os 3 .any (Rows.cellsReachSpec.pre6 enc Try.prog Try.f3 Rows.cellsReachRow.domain false) (Rows.cellsReachSpec.post enc Try.prog Try.f3 false true false false) := by
  refine returnsInHanded_of_change_sized (C := Try.checked) own started (by kernel_rfl) Try.func3
    (ChangeSpec.witness6 (enc := enc) (C := Try.checked) false ⟨#[], #[.int .u8 0, .int .u8 0, .slice none 0 0], []⟩ 8 (by kernel_rfl) (by kernel_rfl) (by kernel_rfl) (by kernel_rfl)) ?_
  intro W base args ds gs before hval hW hcnd hsz _
  refine law_contract (N := 6) (rt := 4) envAll (fun _ => rfl) laidOut rfl rfl Try.underlying4 (by kernel_rfl) (by kernel_rfl) ?_ law W base args ds gs before hval hW hsz
  intro ds hl
  match ds, hl with
  | [d0, d1, d2], _ => rfl

theorem j0 : Rows.cellsReachRow.wf (OpenSpec.ofChange Rows.cellsReachSpec) = true := by kernel_rfl
theorem j3 : Try.f3.params.all (Try.prog.readableRec ·) = true := by kernel_rfl
theorem j4 : namedTie Try.prog Rows.cellsReachRow.named Rows.cellsReachSpec.vars = true := by kernel_rfl
theorem j9 : (Rows.cellsReachRow.inPlace == Try.prog.inPlace 3) = true := by kernel_rfl
theorem j10 : (Rows.cellsReachRow.unfollowed == Try.prog.unfollowed 3) = true := by kernel_rfl
theorem j11 : (Rows.cellsReachRow.recurses == Try.prog.recurses 3) = true := by kernel_rfl
theorem j12 : (Rows.cellsReachRow.named == Try.prog.varsNamed 3) = true := by kernel_rfl
theorem hfn : Try.pinned.checked.prog.funcNamed Rows.cellsReachRow.func = some 3 := by kernel_rfl
theorem joined : joinedFacts Try.pinned.checked.prog 3 Try.f3 Rows.cellsReachSpec Rows.cellsReachRow = true := by
  show joinedFacts Try.prog 3 Try.f3 Rows.cellsReachSpec Rows.cellsReachRow = true
  unfold joinedFacts
  simp only [Bool.and_eq_true]
  exact ⟨⟨⟨⟨⟨⟨⟨⟨⟨⟨⟨⟨⟨⟨⟨⟨⟨⟨⟨⟨⟨⟨⟨⟨⟨⟨⟨⟨⟨⟨⟨j0, y_laid⟩, y_maps⟩, j3⟩, j4⟩, by kernel_rfl⟩, y_stops⟩, by kernel_rfl⟩, y_knobs⟩, j9⟩, j10⟩, j11⟩, j12⟩, by kernel_rfl⟩, by kernel_rfl⟩, by kernel_rfl⟩, by kernel_rfl⟩, by kernel_rfl⟩, by kernel_rfl⟩, by kernel_rfl⟩, by kernel_rfl⟩, by kernel_rfl⟩, by rw [y_plain]; kernel_rfl⟩, by kernel_rfl⟩, y_heard⟩, y_enter⟩, by rw [y_lifts]; kernel_rfl⟩, by rw [y_make]; kernel_rfl⟩, by kernel_rfl⟩, by kernel_rfl⟩, by kernel_rfl⟩, by kernel_rfl⟩

theorem over : Rows.cellsReachRow.holds Try.pinned (OpenSpec.ofChange Rows.cellsReachSpec) :=
  OpenClaim.holds_of_wide 3 Try.f3 rfl rfl rfl rfl rfl rfl rfl ⟨rfl, rfl, rfl, rfl, rfl⟩ rfl rfl rfl rfl rfl hfn Try.func3 joined
    (of_decide_eq_true (by kernel_rfl)) (by unfold Func.isWrapper; first | (rw [if_pos (by decide +kernel)]; kernel_rfl) | (rw [if_neg (by decide +kernel)]; exact ⟨rfl, rfl⟩))
    (fun os started H enc _ => lifted os started H enc)
end Go.Proofs.Yticdhmcbooabaaa.cellsReach
namespace Go.Proofs.Yticdhmcbooabaaa
theorem cellsReach_holds : Rows.CellsReachSaid := cellsReach.over
#print axioms cellsReach_holds
end Go.Proofs.Yticdhmcbooabaaa
