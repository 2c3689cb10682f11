/- CellsReaches, tied: for every two counts the law answers true, where the rows' variable holds what the program's text lays there. -/
import Derived.Test.YticdhmcbooabaaaDoorRZ
import Derived.Test.YticdhmcbooabaaaDoorY
import Derived.Test.YticdhmcbooabaaaDoorTie
import Derived.Test.YticdhmcbooabaaaDoorCards
import Derived.WalkKit
import Derived.ProofKit
import Derived.Handy
import Derived.Lay
import Derived.SevenTiedAt
import Derived.OpenShut
import Derived.ChangeOld
import Derived.Below
import Derived.SizedLaws
set_option linter.unusedVariables false
set_option maxRecDepth 100000
namespace Go.Proofs.YticdhmcbooabaaaDoor.cellsReaches
open Go Go.Proofs.YticdhmcbooabaaaDoor.V
open Go.ChangeShapes Go.WideShapes Go.ChangeAt Go.RowKit

theorem law : ∀ xs : List PV, All2 (WfV Tryd.prog 6) Tryd.f4.params.toList xs → ∃ n m S1, callF Tryd.prog env n 4 (xs.map (.pure false)) [] = some (.pure m (.bool true), S1) := by
  intro xs h
  have h' : All2 (WfV Tryd.prog 6) [5, 5] xs := h
  cases h' with
  | cons h1 t1 =>
    cases t1 with
    | cons h2 t2 =>
      cases t2
      obtain ⟨a, rfl⟩ := wfv_u8 h1
      obtain ⟨b, rfl⟩ := wfv_u8 h2
      obtain ⟨n, hn⟩ := cellsReaches_runs a b
      exact ⟨n, _, _, hn⟩

set_option maxRecDepth 100000 in
theorem lifted (os : Os) (started : os.Started) (H : Type) (enc : TypeId × Value → H) :
    ReturnsInHanded {} Tryd.checked os 4 .any (fun w args => (Rows.cellsReachesSpec.pre enc Tryd.prog Tryd.f4 [] false w args ∧ laidMetH Tryd.prog Rows.cellsReachesRow.laid w) ∧ sizedMet enc Tryd.prog Tryd.f4 (OpenSpec.ofChange Rows.cellsReachesSpec) false w args)
      (Rows.cellsReachesSpec.post enc Tryd.prog Tryd.f4 false true false false) := by
  refine returnsInHanded_of_change_and (C := Tryd.checked) (X := fun w _ => laidMetH Tryd.prog Rows.cellsReachesRow.laid w) (fun _ _ _ hh h => h.of_heap hh) own started (by kernel_rfl) Tryd.func4
    (ChangeSpec.witness_shaped (enc := enc) (C := Tryd.checked) (os := os) (X := fun w _ => laidMetH Tryd.prog Rows.cellsReachesRow.laid w) false (World.laidAll Tryd.prog os Rows.cellsReachesRow.laid) #[.int .u8 0, .int .u8 0] 8 (World.laidAll_os _ _ _)
      (World.shaped_of_ZipB (by kernel_rfl) (by kernel_rfl)) (by kernel_rfl) (by kernel_rfl) (by kernel_rfl)
      (by rw [MakeChecks.laidMetH_plain _ _ _ (by kernel_rfl)]; exact laidMet_laidAll _ (by kernel_rfl) (by kernel_rfl))) ?_
  intro W base args ds gs before hval hW _ hsz hX _
  refine law_contractG (N := 6) (rt := 4) envAll laidOut rfl rfl Tryd.underlying4 (by kernel_rfl) (by kernel_rfl) ?_ law W (glob_ok hX) base args ds gs before hval hW hsz
  intro ds hl
  match ds, hl with
  | [d0, d1], _ => rfl

theorem j0 : Rows.cellsReachesRow.wf (OpenSpec.ofChange Rows.cellsReachesSpec) = true := by kernel_rfl
theorem j3 : Tryd.f4.params.all (Tryd.prog.readableRec ·) = true := by kernel_rfl
theorem j4 : namedTie Tryd.prog Rows.cellsReachesRow.named Rows.cellsReachesSpec.vars = true := by kernel_rfl
theorem j9 : (Rows.cellsReachesRow.inPlace == Tryd.prog.inPlace 4) = true := by kernel_rfl
theorem j10 : (Rows.cellsReachesRow.unfollowed == Tryd.prog.unfollowed 4) = true := by kernel_rfl
theorem j11 : (Rows.cellsReachesRow.recurses == Tryd.prog.recurses 4) = true := by kernel_rfl
theorem j12 : (Rows.cellsReachesRow.named == Tryd.prog.varsNamed 4) = true := by kernel_rfl
theorem hfn : Tryd.pinned.checked.prog.funcNamed Rows.cellsReachesRow.func = some 4 := by kernel_rfl
theorem joined : joinedFacts Tryd.pinned.checked.prog 4 Tryd.f4 Rows.cellsReachesSpec Rows.cellsReachesRow = true := by
  show joinedFacts Tryd.prog 4 Tryd.f4 Rows.cellsReachesSpec Rows.cellsReachesRow = true
  unfold joinedFacts
  simp only [Bool.and_eq_true]
  exact ⟨⟨⟨⟨⟨⟨⟨⟨⟨⟨⟨⟨⟨⟨⟨⟨⟨⟨⟨⟨⟨⟨⟨⟨⟨⟨⟨⟨⟨⟨⟨j0, y_laid⟩, y_maps⟩, j3⟩, j4⟩, by kernel_rfl⟩, y_stops⟩, by kernel_rfl⟩, y_knobs⟩, j9⟩, j10⟩, j11⟩, j12⟩, by kernel_rfl⟩, by kernel_rfl⟩, by kernel_rfl⟩, by kernel_rfl⟩, by kernel_rfl⟩, by kernel_rfl⟩, by kernel_rfl⟩, by kernel_rfl⟩, by kernel_rfl⟩, by rw [y_plain]; kernel_rfl⟩, by kernel_rfl⟩, y_heard⟩, y_enter⟩, by rw [y_lifts]; kernel_rfl⟩, by rw [y_make]; kernel_rfl⟩, by kernel_rfl⟩, by kernel_rfl⟩, by kernel_rfl⟩, by kernel_rfl⟩

theorem over : Rows.cellsReachesRow.holds Tryd.pinned (OpenSpec.ofChange Rows.cellsReachesSpec) :=
  OpenClaim.holds_of_wide 4 Tryd.f4 rfl rfl rfl rfl rfl rfl rfl ⟨rfl, rfl, rfl, rfl, rfl⟩ rfl rfl rfl rfl rfl hfn Tryd.func4 joined
    (of_decide_eq_true (by kernel_rfl)) (by unfold Func.isWrapper; first | (rw [if_pos (by decide +kernel)]; kernel_rfl) | (rw [if_neg (by decide +kernel)]; exact ⟨rfl, rfl⟩))
    (fun os started H enc _ => lifted os started H enc)
end Go.Proofs.YticdhmcbooabaaaDoor.cellsReaches
namespace Go.Proofs.YticdhmcbooabaaaDoor
theorem cellsReaches_holds : Rows.CellsReachesCardSaid :=
  Claim7.holds_tied_plain_at .later [] [.data] true (true, "937d64d9f49e873a66af4acc49631d708eba1841196fb7f33488a732296e2ac2") false cellsReaches.over (fun _ h => by cases h) (by kernel_rfl) (fun _ h => by cases h) cellsReaches_row_tie rfl ⟨rfl, rfl⟩ (by kernel_rfl) rfl
    (fun f fn hf hfn => by
      obtain rfl : f = 4 := Option.some.inj ((show Tryd.prog.funcNamed "umpire/umpirelaw27.CellsReaches" = some 4 by kernel_rfl).symm.trans hf) |>.symm
      obtain rfl : fn = Tryd.f4 := (Option.some.inj (Tryd.func4.symm.trans hfn)).symm
      exact ⟨by kernel_rfl, fun j t ht => by
        have ht' : #[5, 5][j]? = some t := ht
        have hm : t ∈ [5, 5] := by simpa using Array.mem_of_getElem? ht'
        have hall : ([5, 5].all fun u => !Tryd.prog.wantsStandIn u) = true := by kernel_rfl
        exact (show Tryd.prog.wantsStandIn t = false by simpa using List.all_eq_true.1 hall t hm)⟩)
    (by kernel_rfl)
#print axioms cellsReaches_holds
end Go.Proofs.YticdhmcbooabaaaDoor
