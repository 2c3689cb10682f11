/- AutoKeeps, tied: for every automaton and event the law answers true, where the rows' variable holds what the program's text lays there. -/
import Derived.Test.YtkjoolmkgpmlfaaDoorZP
import Derived.Test.YtkjoolmkgpmlfaaDoorZK
import Derived.Test.YtkjoolmkgpmlfaaDoorZX
import Derived.Test.YtkjoolmkgpmlfaaDoorZY
import Derived.Test.YtkjoolmkgpmlfaaDoorTie
import Derived.Test.YtkjoolmkgpmlfaaDoorCards
import Derived.WalkKit
import Derived.ProofKit
import Derived.Handy
import Derived.Lay
import Derived.SevenTiedAt
import Derived.OpenShut
import Derived.ChangeOld
import Derived.Below
import Derived.SizedLaws
set_option linter.unusedVariables false
set_option maxRecDepth 100000
namespace Go.Proofs.YtkjoolmkgpmlfaaDoorZ.autoKeeps
open Go.Proofs.YtkjoolmkgpmlfaaDoor
open Go Go.Proofs.YtkjoolmkgpmlfaaDoorZ.V
open Go.ChangeShapes Go.WideShapes Go.ChangeAt Go.RowKit

theorem law : ∀ xs : List PV, All2 (WfV Tryd.prog 6) Tryd.f5.params.toList xs → ∃ n m S1, callF Tryd.prog env n 5 (xs.map (.pure false)) [] = some (.pure m (.bool true), S1) := by
  intro xs h
  have h' : All2 (WfV Tryd.prog 6) [23, 3] xs := h
  cases h' with
  | cons h1 t1 =>
    cases t1 with
    | cons h2 t2 =>
      cases t2
      obtain ⟨s, r, rfl⟩ := wfv_aut h1
      obtain ⟨e, rfl, _⟩ := wfv_i64 h2
      obtain ⟨n, hn⟩ := autoKeeps_runs s r e
      exact ⟨n, _, _, hn⟩

set_option maxRecDepth 100000 in
theorem lifted (os : Os) (started : os.Started) (H : Type) (enc : TypeId × Value → H) :
    ReturnsInHanded {} Tryd.checked os 5 .any (fun w args => (Rows.autoKeepsSpec.pre enc Tryd.prog Tryd.f5 [] false w args ∧ laidMetH Tryd.prog Rows.autoKeepsRow.laid w) ∧ sizedMet enc Tryd.prog Tryd.f5 (OpenSpec.ofChange Rows.autoKeepsSpec) false w args)
      (Rows.autoKeepsSpec.post enc Tryd.prog Tryd.f5 false true false false) := by
  refine returnsInHanded_of_change_and (C := Tryd.checked) (X := fun w _ => laidMetH Tryd.prog Rows.autoKeepsRow.laid w) (fun _ _ _ hh h => h.of_heap hh) own started (by kernel_rfl) Tryd.func5
    (ChangeSpec.witness_shaped (enc := enc) (C := Tryd.checked) (os := os) (X := fun w _ => laidMetH Tryd.prog Rows.autoKeepsRow.laid w) false (World.laidAll Tryd.prog os Rows.autoKeepsRow.laid) #[.agg #[.int .i64 0, .int .i64 0], .int .i64 0] 8 (World.laidAll_os _ _ _)
      (World.shaped_of_ZipB (by kernel_rfl) (by kernel_rfl)) (by kernel_rfl) (by kernel_rfl) (by kernel_rfl)
      (by rw [MakeChecks.laidMetH_plain _ _ _ (by kernel_rfl)]; exact laidMet_laidAll _ (by kernel_rfl) (by kernel_rfl))) ?_
  intro W base args ds gs before hval hW _ hsz hX _
  refine law_contractG (N := 6) (rt := 4) envAll laidOut rfl rfl Tryd.underlying4 (by kernel_rfl) (by kernel_rfl) ?_ law W (glob_ok hX) base args ds gs before hval hW hsz
  intro ds hl
  match ds, hl with
  | [d0, d1], _ => rfl

theorem j0 : Rows.autoKeepsRow.wf (OpenSpec.ofChange Rows.autoKeepsSpec) = true := by kernel_rfl
theorem j3 : Tryd.f5.params.all (Tryd.prog.readableRec ·) = true := by kernel_rfl
theorem j4 : namedTie Tryd.prog Rows.autoKeepsRow.named Rows.autoKeepsSpec.vars = true := by kernel_rfl
theorem j9 : (Rows.autoKeepsRow.inPlace == Tryd.prog.inPlace 5) = true := by kernel_rfl
theorem j10 : (Rows.autoKeepsRow.unfollowed == Tryd.prog.unfollowed 5) = true := by kernel_rfl
theorem j11 : (Rows.autoKeepsRow.recurses == Tryd.prog.recurses 5) = true := by kernel_rfl
theorem j12 : (Rows.autoKeepsRow.named == Tryd.prog.varsNamed 5) = true := by kernel_rfl
theorem hfn : Tryd.pinned.checked.prog.funcNamed Rows.autoKeepsRow.func = some 5 := by kernel_rfl
theorem joined : joinedFacts Tryd.pinned.checked.prog 5 Tryd.f5 Rows.autoKeepsSpec Rows.autoKeepsRow = true := by
  show joinedFacts Tryd.prog 5 Tryd.f5 Rows.autoKeepsSpec Rows.autoKeepsRow = true
  unfold joinedFacts
  simp only [Bool.and_eq_true]
  exact ⟨⟨⟨⟨⟨⟨⟨⟨⟨⟨⟨⟨⟨⟨⟨⟨⟨⟨⟨⟨⟨⟨⟨⟨⟨⟨⟨⟨⟨⟨⟨j0, y_laid⟩, y_maps⟩, j3⟩, j4⟩, by kernel_rfl⟩, y_stops⟩, by kernel_rfl⟩, y_knobs⟩, j9⟩, j10⟩, j11⟩, j12⟩, by kernel_rfl⟩, by kernel_rfl⟩, by kernel_rfl⟩, by kernel_rfl⟩, by kernel_rfl⟩, by kernel_rfl⟩, by kernel_rfl⟩, by kernel_rfl⟩, by kernel_rfl⟩, by rw [y_plain]; kernel_rfl⟩, by kernel_rfl⟩, y_heard⟩, y_enter⟩, by rw [y_lifts]; kernel_rfl⟩, by rw [y_make]; kernel_rfl⟩, by kernel_rfl⟩, by kernel_rfl⟩, by kernel_rfl⟩, by kernel_rfl⟩

theorem over : Rows.autoKeepsRow.holds Tryd.pinned (OpenSpec.ofChange Rows.autoKeepsSpec) :=
  OpenClaim.holds_of_wide 5 Tryd.f5 rfl rfl rfl rfl rfl rfl rfl ⟨rfl, rfl, rfl, rfl, rfl⟩ rfl rfl rfl rfl rfl hfn Tryd.func5 joined
    (of_decide_eq_true (by kernel_rfl)) (by unfold Func.isWrapper; first | (rw [if_pos (by decide +kernel)]; kernel_rfl) | (rw [if_neg (by decide +kernel)]; exact ⟨rfl, rfl⟩))
    (fun os started H enc _ => lifted os started H enc)
end Go.Proofs.YtkjoolmkgpmlfaaDoorZ.autoKeeps
namespace Go.Proofs.YtkjoolmkgpmlfaaDoor
theorem autoKeeps_holds : Rows.AutoKeepsCardSaid :=
  Claim7.holds_tied_plain_at .later [] [.data] true (true, "cf6e3d2179a68b608705a1a0e354c240257d34b97dd84a784d0899bbda702ca2") false Go.Proofs.YtkjoolmkgpmlfaaDoorZ.autoKeeps.over (fun _ h => by cases h) (by kernel_rfl) (fun _ h => by cases h) autoKeeps_row_tie rfl ⟨rfl, rfl⟩ (by kernel_rfl) rfl
    (fun f fn hf hfn => by
      obtain rfl : f = 5 := Option.some.inj ((show Tryd.prog.funcNamed "umpire/umpirelaw20.AutoKeeps" = some 5 by kernel_rfl).symm.trans hf) |>.symm
      obtain rfl : fn = Tryd.f5 := (Option.some.inj (Tryd.func5.symm.trans hfn)).symm
      exact ⟨by kernel_rfl, fun j t ht => by
        have ht' : #[23, 3][j]? = some t := ht
        have hm : t ∈ [23, 3] := by simpa using Array.mem_of_getElem? ht'
        have hall : ([23, 3].all fun u => !Tryd.prog.wantsStandIn u) = true := by kernel_rfl
        exact (show Tryd.prog.wantsStandIn t = false by simpa using List.all_eq_true.1 hall t hm)⟩)
    (by kernel_rfl)
#print axioms autoKeeps_holds
end Go.Proofs.YtkjoolmkgpmlfaaDoor
