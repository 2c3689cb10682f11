/- CellsKeeps, tied: for every two counts and every script the law answers true, where the rows' variable holds what the program's text lays there. -/
import Derived.Test.YticdhmcbooabaaaDoorDZ
import Derived.Test.YticdhmcbooabaaaDoorY
import Derived.Test.YticdhmcbooabaaaDoorTie
import Derived.Test.YticdhmcbooabaaaDoorCards
import Derived.WalkKit
import Derived.ProofKit
import Derived.Handy
import Derived.Lay
import Derived.SevenTiedAt
import Derived.OpenShut
import Derived.ChangeOld
import Derived.Below
import Derived.SizedLaws
set_option linter.unusedVariables false
set_option maxRecDepth 100000
namespace Go.Proofs.YticdhmcbooabaaaDoor.cellsKeeps
open Go Go.Proofs.YticdhmcbooabaaaDoor.V
open Go.ChangeShapes Go.WideShapes Go.ChangeAt Go.RowKit

theorem law : ∀ xs : List PV, All2 (WfV Tryd.prog 6) Tryd.f5.params.toList xs → ∃ n m S1, callF Tryd.prog env n 5 (xs.map (.pure false)) [] = some (.pure m (.bool true), S1) := by
  intro xs h
  have h' : All2 (WfV Tryd.prog 6) [5, 5, 22] xs := h
  cases h' with
  | cons h1 t1 =>
    cases t1 with
    | cons h2 t2 =>
      cases t2 with
      | cons h3 t3 =>
        cases t3
        obtain ⟨a, rfl⟩ := wfv_u8 h1
        obtain ⟨b, rfl⟩ := wfv_u8 h2
        obtain ⟨l, rfl, hl⟩ := wfv_steps h3
        obtain ⟨n, hn⟩ := cellsKeeps_runs a b l hl
        exact ⟨n, _, _, hn⟩

set_option maxRecDepth 100000 in
theorem lifted (os : Os) (started : os.Started) (H : Type) (enc : TypeId × Value → H) :
    ReturnsInHanded {} Tryd.checked os 5 .any (fun w args => (Rows.cellsKeepsSpec.pre enc Tryd.prog Tryd.f5 [] false w args ∧ laidMetH Tryd.prog Rows.cellsKeepsRow.laid w) ∧ sizedMet enc Tryd.prog Tryd.f5 (OpenSpec.ofChange Rows.cellsKeepsSpec) false w args)
      (Rows.cellsKeepsSpec.post enc Tryd.prog Tryd.f5 false true false false) := by
  refine returnsInHanded_of_change_and (C := Tryd.checked) (X := fun w _ => laidMetH Tryd.prog Rows.cellsKeepsRow.laid w) (fun _ _ _ hh h => h.of_heap hh) own started (by kernel_rfl) Tryd.func5
    (ChangeSpec.witness_shaped (enc := enc) (C := Tryd.checked) (os := os) (X := fun w _ => laidMetH Tryd.prog Rows.cellsKeepsRow.laid w) false (World.laidAll Tryd.prog os Rows.cellsKeepsRow.laid) #[.int .u8 0, .int .u8 0, .slice none 0 0] 8 (World.laidAll_os _ _ _)
      (World.shaped_of_ZipB (by kernel_rfl) (by kernel_rfl)) (by kernel_rfl) (by kernel_rfl) (by kernel_rfl)
      (by rw [MakeChecks.laidMetH_plain _ _ _ (by kernel_rfl)]; exact laidMet_laidAll _ (by kernel_rfl) (by kernel_rfl))) ?_
  intro W base args ds gs before hval hW _ hsz hX _
  refine law_contractG (N := 6) (rt := 4) envAll laidOut rfl rfl Tryd.underlying4 (by kernel_rfl) (by kernel_rfl) ?_ law W (glob_ok hX) base args ds gs before hval hW hsz
  intro ds hl
  match ds, hl with
  | [d0, d1, d2], _ => rfl

theorem j0 : Rows.cellsKeepsRow.wf (OpenSpec.ofChange Rows.cellsKeepsSpec) = true := by kernel_rfl
theorem j3 : Tryd.f5.params.all (Tryd.prog.readableRec ·) = true := by kernel_rfl
theorem j4 : namedTie Tryd.prog Rows.cellsKeepsRow.named Rows.cellsKeepsSpec.vars = true := by kernel_rfl
theorem j9 : (Rows.cellsKeepsRow.inPlace == Tryd.prog.inPlace 5) = true := by kernel_rfl
theorem j10 : (Rows.cellsKeepsRow.unfollowed == Tryd.prog.unfollowed 5) = true := by kernel_rfl
theorem j11 : (Rows.cellsKeepsRow.recurses == Tryd.prog.recurses 5) = true := by kernel_rfl
theorem j12 : (Rows.cellsKeepsRow.named == Tryd.prog.varsNamed 5) = true := by kernel_rfl
theorem hfn : Tryd.pinned.checked.prog.funcNamed Rows.cellsKeepsRow.func = some 5 := by kernel_rfl
theorem joined : joinedFacts Tryd.pinned.checked.prog 5 Tryd.f5 Rows.cellsKeepsSpec Rows.cellsKeepsRow = true := by
  show joinedFacts Tryd.prog 5 Tryd.f5 Rows.cellsKeepsSpec Rows.cellsKeepsRow = true
  unfold joinedFacts
  simp only [Bool.and_eq_true]
  exact ⟨⟨⟨⟨⟨⟨⟨⟨⟨⟨⟨⟨⟨⟨⟨⟨⟨⟨⟨⟨⟨⟨⟨⟨⟨⟨⟨⟨⟨⟨⟨j0, y_laid⟩, y_maps⟩, j3⟩, j4⟩, by kernel_rfl⟩, y_stops⟩, by kernel_rfl⟩, y_knobs⟩, j9⟩, j10⟩, j11⟩, j12⟩, by kernel_rfl⟩, by kernel_rfl⟩, by kernel_rfl⟩, by kernel_rfl⟩, by kernel_rfl⟩, by kernel_rfl⟩, by kernel_rfl⟩, by kernel_rfl⟩, by kernel_rfl⟩, by rw [y_plain]; kernel_rfl⟩, by kernel_rfl⟩, y_heard⟩, y_enter⟩, by rw [y_lifts]; kernel_rfl⟩, by rw [y_make]; kernel_rfl⟩, by kernel_rfl⟩, by kernel_rfl⟩, by kernel_rfl⟩, by kernel_rfl⟩

theorem over : Rows.cellsKeepsRow.holds Tryd.pinned (OpenSpec.ofChange Rows.cellsKeepsSpec) :=
  OpenClaim.holds_of_wide 5 Tryd.f5 rfl rfl rfl rfl rfl rfl rfl ⟨rfl, rfl, rfl, rfl, rfl⟩ rfl rfl rfl rfl rfl hfn Tryd.func5 joined
    (of_decide_eq_true (by kernel_rfl)) (by unfold Func.isWrapper; first | (rw [if_pos (by decide +kernel)]; kernel_rfl) | (rw [if_neg (by decide +kernel)]; exact ⟨rfl, rfl⟩))
    (fun os started H enc _ => lifted os started H enc)
end Go.Proofs.YticdhmcbooabaaaDoor.cellsKeeps
namespace Go.Proofs.YticdhmcbooabaaaDoor
theorem cellsKeeps_holds : Rows.CellsKeepsCardSaid :=
  Claim7.holds_tied_plain_at .later [] [.data] true (true, "937d64d9f49e873a66af4acc49631d708eba1841196fb7f33488a732296e2ac2") false cellsKeeps.over (fun _ h => by cases h) (by kernel_rfl) (fun _ h => by cases h) cellsKeeps_row_tie rfl ⟨rfl, rfl⟩ (by kernel_rfl) rfl
    (fun f fn hf hfn => by
      obtain rfl : f = 5 := Option.some.inj ((show Tryd.prog.funcNamed "umpire/umpirelaw27.CellsKeeps" = some 5 by kernel_rfl).symm.trans hf) |>.symm
      obtain rfl : fn = Tryd.f5 := (Option.some.inj (Tryd.func5.symm.trans hfn)).symm
      exact ⟨by kernel_rfl, fun j t ht => by
        have ht' : #[5, 5, 22][j]? = some t := ht
        have hm : t ∈ [5, 5, 22] := by simpa using Array.mem_of_getElem? ht'
        have hall : ([5, 5, 22].all fun u => !Tryd.prog.wantsStandIn u) = true := by kernel_rfl
        exact (show Tryd.prog.wantsStandIn t = false by simpa using List.all_eq_true.1 hall t hm)⟩)
    (by kernel_rfl)
#print axioms cellsKeeps_holds
end Go.Proofs.YticdhmcbooabaaaDoor
