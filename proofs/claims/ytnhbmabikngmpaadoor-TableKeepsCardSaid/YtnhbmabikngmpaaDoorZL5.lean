/- TableKeeps, tied: for every two numbers the law answers true, where the rows' variable holds what the program's text lays there. -/
import Derived.Test.YtnhbmabikngmpaaDoorZP
import Derived.Test.YtnhbmabikngmpaaDoorZK
import Derived.Test.YtnhbmabikngmpaaDoorZX
import Derived.Test.YtnhbmabikngmpaaDoorZY
import Derived.Test.YtnhbmabikngmpaaDoorTie
import Derived.Test.YtnhbmabikngmpaaDoorCards
import Derived.WalkKit
import Derived.ProofKit
import Derived.Handy
import Derived.Lay
import Derived.SevenTiedAt
import Derived.OpenShut
import Derived.ChangeOld
import Derived.Below
import Derived.SizedLaws
set_option linter.unusedVariables false
set_option maxRecDepth 100000
namespace Go.Proofs.YtnhbmabikngmpaaDoorZ.tableKeeps
open Go.Proofs.YtnhbmabikngmpaaDoor
open Go Go.Proofs.YtnhbmabikngmpaaDoorZ.V
open Go.ChangeShapes Go.WideShapes Go.ChangeAt Go.RowKit

theorem law : ∀ xs : List PV, All2 (WfV Tryd.prog 6) Tryd.f5.params.toList xs → ∃ n m S1, callF Tryd.prog env n 5 (xs.map (.pure false)) [] = some (.pure m (.bool true), S1) := by
  intro xs h
  have h' : All2 (WfV Tryd.prog 6) [3, 3] xs := h
  cases h' with
  | cons h1 t1 =>
    cases t1 with
    | cons h2 t2 =>
      cases t2
      obtain ⟨s, rfl, _⟩ := wfv_i64 h1
      obtain ⟨e, rfl, _⟩ := wfv_i64 h2
      obtain ⟨n, hn⟩ := tableKeeps_runs s e
      exact ⟨n, _, _, hn⟩

set_option maxRecDepth 100000 in
theorem lifted (os : Os) (started : os.Started) (H : Type) (enc : TypeId × Value → H) :
    ReturnsInHanded {} Tryd.checked os 5 .any (fun w args => (Rows.tableKeepsSpec.pre enc Tryd.prog Tryd.f5 [] false w args ∧ laidMetH Tryd.prog Rows.tableKeepsRow.laid w) ∧ sizedMet enc Tryd.prog Tryd.f5 (OpenSpec.ofChange Rows.tableKeepsSpec) false w args)
      (Rows.tableKeepsSpec.post enc Tryd.prog Tryd.f5 false true false false) := by
  refine returnsInHanded_of_change_and (C := Tryd.checked) (X := fun w _ => laidMetH Tryd.prog Rows.tableKeepsRow.laid w) (fun _ _ _ hh h => h.of_heap hh) own started (by kernel_rfl) Tryd.func5
    (ChangeSpec.witness_shaped (enc := enc) (C := Tryd.checked) (os := os) (X := fun w _ => laidMetH Tryd.prog Rows.tableKeepsRow.laid w) false (World.laidAll Tryd.prog os Rows.tableKeepsRow.laid) #[.int .i64 0, .int .i64 0] 8 (World.laidAll_os _ _ _)
      (World.shaped_of_ZipB (by kernel_rfl) (by kernel_rfl)) (by kernel_rfl) (by kernel_rfl) (by kernel_rfl)
      (by rw [MakeChecks.laidMetH_plain _ _ _ (by kernel_rfl)]; exact laidMet_laidAll _ (by kernel_rfl) (by kernel_rfl))) ?_
  intro W base args ds gs before hval hW _ hsz hX _
  refine law_contractG (N := 6) (rt := 4) envAll laidOut rfl rfl Tryd.underlying4 (by kernel_rfl) (by kernel_rfl) ?_ law W (glob_ok hX) base args ds gs before hval hW hsz
  intro ds hl
  match ds, hl with
  | [d0, d1], _ => rfl

theorem j0 : Rows.tableKeepsRow.wf (OpenSpec.ofChange Rows.tableKeepsSpec) = true := by kernel_rfl
theorem j3 : Tryd.f5.params.all (Tryd.prog.readableRec ·) = true := by kernel_rfl
theorem j4 : namedTie Tryd.prog Rows.tableKeepsRow.named Rows.tableKeepsSpec.vars = true := by kernel_rfl
theorem j9 : (Rows.tableKeepsRow.inPlace == Tryd.prog.inPlace 5) = true := by kernel_rfl
theorem j10 : (Rows.tableKeepsRow.unfollowed == Tryd.prog.unfollowed 5) = true := by kernel_rfl
theorem j11 : (Rows.tableKeepsRow.recurses == Tryd.prog.recurses 5) = true := by kernel_rfl
theorem j12 : (Rows.tableKeepsRow.named == Tryd.prog.varsNamed 5) = true := by kernel_rfl
theorem hfn : Tryd.pinned.checked.prog.funcNamed Rows.tableKeepsRow.func = some 5 := by kernel_rfl
theorem joined : joinedFacts Tryd.pinned.checked.prog 5 Tryd.f5 Rows.tableKeepsSpec Rows.tableKeepsRow = true := by
  show joinedFacts Tryd.prog 5 Tryd.f5 Rows.tableKeepsSpec Rows.tableKeepsRow = true
  unfold joinedFacts
  simp only [Bool.and_eq_true]
  exact ⟨⟨⟨⟨⟨⟨⟨⟨⟨⟨⟨⟨⟨⟨⟨⟨⟨⟨⟨⟨⟨⟨⟨⟨⟨⟨⟨⟨⟨⟨⟨j0, y_laid⟩, y_maps⟩, j3⟩, j4⟩, by kernel_rfl⟩, y_stops⟩, by kernel_rfl⟩, y_knobs⟩, j9⟩, j10⟩, j11⟩, j12⟩, by kernel_rfl⟩, by kernel_rfl⟩, by kernel_rfl⟩, by kernel_rfl⟩, by kernel_rfl⟩, by kernel_rfl⟩, by kernel_rfl⟩, by kernel_rfl⟩, by kernel_rfl⟩, by rw [y_plain]; kernel_rfl⟩, by kernel_rfl⟩, y_heard⟩, y_enter⟩, by rw [y_lifts]; kernel_rfl⟩, by rw [y_make]; kernel_rfl⟩, by kernel_rfl⟩, by kernel_rfl⟩, by kernel_rfl⟩, by kernel_rfl⟩

theorem over : Rows.tableKeepsRow.holds Tryd.pinned (OpenSpec.ofChange Rows.tableKeepsSpec) :=
  OpenClaim.holds_of_wide 5 Tryd.f5 rfl rfl rfl rfl rfl rfl rfl ⟨rfl, rfl, rfl, rfl, rfl⟩ rfl rfl rfl rfl rfl hfn Tryd.func5 joined
    (of_decide_eq_true (by kernel_rfl)) (by unfold Func.isWrapper; first | (rw [if_pos (by decide +kernel)]; kernel_rfl) | (rw [if_neg (by decide +kernel)]; exact ⟨rfl, rfl⟩))
    (fun os started H enc _ => lifted os started H enc)
end Go.Proofs.YtnhbmabikngmpaaDoorZ.tableKeeps
namespace Go.Proofs.YtnhbmabikngmpaaDoor
theorem tableKeeps_holds : Rows.TableKeepsCardSaid :=
  Claim7.holds_tied_plain_at .later [] [.data] true (true, "b3a38748ea52cd6e8d3a27ebef321dd3462d10ca6c221ffec907532eadf6ef46") false Go.Proofs.YtnhbmabikngmpaaDoorZ.tableKeeps.over (fun _ h => by cases h) (by kernel_rfl) (fun _ h => by cases h) tableKeeps_row_tie rfl ⟨rfl, rfl⟩ (by kernel_rfl) rfl
    (fun f fn hf hfn => by
      obtain rfl : f = 5 := Option.some.inj ((show Tryd.prog.funcNamed "umpire/umpirelaw19.TableKeeps" = some 5 by kernel_rfl).symm.trans hf) |>.symm
      obtain rfl : fn = Tryd.f5 := (Option.some.inj (Tryd.func5.symm.trans hfn)).symm
      exact ⟨by kernel_rfl, fun j t ht => by
        have ht' : #[3, 3][j]? = some t := ht
        have hm : t ∈ [3, 3] := by simpa using Array.mem_of_getElem? ht'
        have hall : ([3, 3].all fun u => !Tryd.prog.wantsStandIn u) = true := by kernel_rfl
        exact (show Tryd.prog.wantsStandIn t = false by simpa using List.all_eq_true.1 hall t hm)⟩)
    (by kernel_rfl)
#print axioms tableKeeps_holds
end Go.Proofs.YtnhbmabikngmpaaDoor
