/- AutoBound: for every automaton and every two numbers the law answers true; no condition. -/
import Derived.Test.YtkjoolmkgpmlfaaC
import Derived.Test.YtkjoolmkgpmlfaaRows
import Derived.Test.YtkjoolmkgpmlfaaY
import Derived.WalkKit
import Derived.ProofKit
import Derived.OpenShut
import Derived.ShutString
import Derived.ChangeOld
import Derived.Below
import Derived.SizedLaws
set_option linter.unusedVariables false
set_option maxRecDepth 100000
namespace Go.Proofs.Ytkjoolmkgpmlfaa.autoBound
open Go Go.Proofs.Ytkjoolmkgpmlfaa.V
open Go.ChangeShapes Go.WideShapes Go.ChangeAt Go.RowKit

theorem law : ∀ xs : List PV, All2 (WfV Try.prog 6) Try.f4.params.toList xs → ∃ n m S1, callF Try.prog env n 4 (xs.map (.pure false)) [] = some (.pure m (.bool true), S1) := by
  intro xs h
  have h' : All2 (WfV Try.prog 6) [23, 5, 5] xs := h
  cases h' with
  | cons h1 t1 =>
    cases t1 with
    | cons h2 t2 =>
      cases t2 with
      | cons h3 t3 =>
        cases t3
        obtain ⟨s, r, rfl⟩ := wfv_aut h1
        obtain ⟨a, rfl⟩ := wfv_u8 h2
        obtain ⟨b, rfl⟩ := wfv_u8 h3
        obtain ⟨n, hn⟩ := autoBound_runs s r a b
        exact ⟨n, _, _, hn⟩

set_option maxRecDepth 100000 in
theorem lifted (os : Os) (started : os.Started) (H : Type) (enc : TypeId × Value → H) :
    ReturnsInHanded {} Try.checked os 4 .any (Rows.autoBoundSpec.pre6 enc Try.prog Try.f4 Rows.autoBoundRow.domain false) (Rows.autoBoundSpec.post enc Try.prog Try.f4 false true false false) := by
  refine returnsInHanded_of_change_sized (C := Try.checked) own started (by kernel_rfl) Try.func4
    (ChangeSpec.witness6 (enc := enc) (C := Try.checked) false ⟨#[], #[.agg #[.int .i64 0, .int .i64 0], .int .u8 0, .int .u8 0], []⟩ 8 (by kernel_rfl) (by kernel_rfl) (by kernel_rfl) (by kernel_rfl)) ?_
  intro W base args ds gs before hval hW hcnd hsz _
  refine law_contract (N := 6) (rt := 4) envAll (fun _ => rfl) laidOut rfl rfl Try.underlying4 (by kernel_rfl) (by kernel_rfl) ?_ law W base args ds gs before hval hW hsz
  intro ds hl
  match ds, hl with
  | [d0, d1, d2], _ => rfl

theorem j0 : Rows.autoBoundRow.wf (OpenSpec.ofChange Rows.autoBoundSpec) = true := by kernel_rfl
theorem j3 : Try.f4.params.all (Try.prog.readableRec ·) = true := by kernel_rfl
theorem j4 : namedTie Try.prog Rows.autoBoundRow.named Rows.autoBoundSpec.vars = true := by kernel_rfl
theorem j9 : (Rows.autoBoundRow.inPlace == Try.prog.inPlace 4) = true := by kernel_rfl
theorem j10 : (Rows.autoBoundRow.unfollowed == Try.prog.unfollowed 4) = true := by kernel_rfl
theorem j11 : (Rows.autoBoundRow.recurses == Try.prog.recurses 4) = true := by kernel_rfl
theorem j12 : (Rows.autoBoundRow.named == Try.prog.varsNamed 4) = true := by kernel_rfl
theorem hfn : Try.pinned.checked.prog.funcNamed Rows.autoBoundRow.func = some 4 := by kernel_rfl
theorem joined : joinedFacts Try.pinned.checked.prog 4 Try.f4 Rows.autoBoundSpec Rows.autoBoundRow = true := by
  show joinedFacts Try.prog 4 Try.f4 Rows.autoBoundSpec Rows.autoBoundRow = true
  unfold joinedFacts
  simp only [Bool.and_eq_true]
  exact ⟨⟨⟨⟨⟨⟨⟨⟨⟨⟨⟨⟨⟨⟨⟨⟨⟨⟨⟨⟨⟨⟨⟨⟨⟨⟨⟨⟨⟨⟨⟨j0, y_laid⟩, y_maps⟩, j3⟩, j4⟩, by kernel_rfl⟩, y_stops⟩, by kernel_rfl⟩, y_knobs⟩, j9⟩, j10⟩, j11⟩, j12⟩, by kernel_rfl⟩, by kernel_rfl⟩, by kernel_rfl⟩, by kernel_rfl⟩, by kernel_rfl⟩, by kernel_rfl⟩, by kernel_rfl⟩, by kernel_rfl⟩, by kernel_rfl⟩, by rw [y_plain]; kernel_rfl⟩, by kernel_rfl⟩, y_heard⟩, y_enter⟩, by rw [y_lifts]; kernel_rfl⟩, by rw [y_make]; kernel_rfl⟩, by kernel_rfl⟩, by kernel_rfl⟩, by kernel_rfl⟩, by kernel_rfl⟩

theorem over : Rows.autoBoundRow.holds Try.pinned (OpenSpec.ofChange Rows.autoBoundSpec) :=
  OpenClaim.holds_of_wide 4 Try.f4 rfl rfl rfl rfl rfl rfl rfl ⟨rfl, rfl, rfl, rfl, rfl⟩ rfl rfl rfl rfl rfl hfn Try.func4 joined
    (of_decide_eq_true (by kernel_rfl)) (by unfold Func.isWrapper; first | (rw [if_pos (by decide +kernel)]; kernel_rfl) | (rw [if_neg (by decide +kernel)]; exact ⟨rfl, rfl⟩))
    (fun os started H enc _ => lifted os started H enc)
end Go.Proofs.Ytkjoolmkgpmlfaa.autoBound
namespace Go.Proofs.Ytkjoolmkgpmlfaa
theorem autoBound_holds : Rows.AutoBoundSaid := autoBound.over
#print axioms autoBound_holds
end Go.Proofs.Ytkjoolmkgpmlfaa
