/-
  NARROWER THAN 'FOR EVERY INPUT', by the rows' own cells (each row's printed sentence says how): CellsPlays: laid · CellsReaches: laid · CellsKeeps: laid · SuiteShortest: laid · SuiteSteps: laid · SuiteProbes: laid · SuiteKeeps: laid · SuiteCovers: laid.
  DERIVED. THE GIVEN ROWS OF THIS SEAT. 8 by the template 'for every input the law returns true; each argument reads behind the call as it read before'; 0 by the template 'total and deterministic' (their statements: YticdhmcbooabaaaDoorTotals.lean).
  GIVEN WITH THE SEED: the statements are not yours to turn. If you find one false, say at which input.
  Laid BY PROGRAM, IN A SANDBOX (cutbox-rows.mjs): the forced cells as the released guide's own fill.sh prints them over the translation b28766caac326ec0… (all of the seat's roots in one cut). By AI agents, Wed Nov 11 2026. No macro, syntax, notation, axiom, sorry.
-/
import Derived.Test.YticdhmcbooabaaaDoorChecked
import GoSem.Claim
import GoSem.ClaimJoined
import GoSem.ClaimMapViews
import Derived.JoinedTies
import Derived.KernelRfl
namespace Go.Proofs.YticdhmcbooabaaaDoor
/- THE CELL 'sum', in the pinned program and in every row, IS THE sha256 OF THE DUMP (.gsa) THAT YticdhmcbooabaaaDoorProg.lean LOADS. Nothing in Lean hashes anything: it is a label: what it is worth is what the hold of that sum in a sandbox is worth. -/
noncomputable def Tryd.pinned : Pinned := { name := "yticdhmcbooabaaadoor", sum := "b28766caac326ec0c0ababbccdda59b99755b8dbca6c8ad0deaea555b5f4d114", checked := Tryd.checked }
namespace Rows
def none {H : Type} : Left H := { results := [], args := [] }

/- WHAT THE LISTED PACKAGE-LEVEL VARIABLES READ AS WHEN THE CALL BEGINS. Each datum BY PROGRAM (the guide's laid-datum.mjs) off the statement by which the dump's own 'gosem.cut.vars' lays the variable. In a bare row this is a premise. The card (YticdhmcbooabaaaDoorCards.lean) ties it to the program's text. -/
def laid_umpire_umpireref19_rows {H : Type} : DataW H := .slice [.slice [] [], .slice [.lit (.string [50]), .lit (.string [54, 105, 114]), .lit (.string [45]), .lit (.string [45]), .lit (.string [45]), .lit (.string [45]), .lit (.string [45]), .lit (.string [45]), .lit (.string [45]), .lit (.string [45])] [], .slice [.lit (.string [45]), .lit (.string [45]), .lit (.string [48]), .lit (.string [49, 115]), .lit (.string [48]), .lit (.string [49]), .lit (.string [49]), .lit (.string [49]), .lit (.string [49]), .lit (.string [49, 100])] [], .slice [.lit (.string [49, 115]), .lit (.string [49]), .lit (.string [54, 105, 114]), .lit (.string [51]), .lit (.string [53]), .lit (.string [53]), .lit (.string [54]), .lit (.string [55]), .lit (.string [56]), .lit (.string [57])] [], .slice [.lit (.string [48]), .lit (.string [48, 102]), .lit (.string [50]), .lit (.string [50]), .lit (.string [52]), .lit (.string [52]), .lit (.string [52, 105, 116]), .lit (.string [52, 105, 116]), .lit (.string [52, 105, 116]), .lit (.string [52, 100, 105, 116])] [], .slice [.lit (.string [45]), .lit (.string [45]), .lit (.string [45]), .lit (.string [45]), .lit (.string [52, 116]), .lit (.string [53, 116]), .lit (.string [54, 114]), .lit (.string [54, 114]), .lit (.string [56, 114]), .lit (.string [45])] [], .slice [.lit (.string [45]), .lit (.string [45]), .lit (.string [45]), .lit (.string [45]), .lit (.string [50, 102]), .lit (.string [51, 102]), .lit (.string [51, 102]), .lit (.string [51, 102]), .lit (.string [51, 102]), .lit (.string [45])] [], .slice [.lit (.string [45]), .lit (.string [45]), .lit (.string [50, 107]), .lit (.string [56, 105, 114, 97]), .lit (.string [52]), .lit (.string [53]), .lit (.string [56, 97]), .lit (.string [57, 97, 117]), .lit (.string [56, 97]), .lit (.string [56, 100, 114, 97])] [], .slice [.lit (.string [45]), .lit (.string [45]), .lit (.string [50, 107]), .lit (.string [54, 105, 114, 110]), .lit (.string [52]), .lit (.string [53]), .lit (.string [54, 110]), .lit (.string [55, 110]), .lit (.string [54, 110]), .lit (.string [54, 100, 114, 110])] [], .slice [.lit (.string [45]), .lit (.string [45]), .lit (.string [50, 107]), .lit (.string [51, 107]), .lit (.string [52]), .lit (.string [53]), .lit (.string [55, 105]), .lit (.string [54, 114]), .lit (.string [57, 105, 117]), .lit (.string [54, 100, 114])] [], .slice [.lit (.string [45]), .lit (.string [45]), .lit (.string [50, 107]), .lit (.string [51, 107]), .lit (.string [52]), .lit (.string [53]), .lit (.string [54, 105, 114]), .lit (.string [54, 114]), .lit (.string [56, 105, 114]), .lit (.string [54, 100, 114])] [], .slice [.lit (.string [45]), .lit (.string [45]), .lit (.string [50, 107]), .lit (.string [51, 107]), .lit (.string [52, 107]), .lit (.string [53, 107]), .lit (.string [54, 107]), .lit (.string [54, 107]), .lit (.string [54, 107]), .lit (.string [53, 100, 122, 107])] [], .slice [.lit (.string [45]), .lit (.string [45]), .lit (.string [50]), .lit (.string [51]), .lit (.string [50, 102]), .lit (.string [51, 102]), .lit (.string [54]), .lit (.string [54]), .lit (.string [56]), .lit (.string [54, 100, 114])] [], .slice [.lit (.string [45]), .lit (.string [45]), .lit (.string [50, 99]), .lit (.string [51, 99]), .lit (.string [52, 99]), .lit (.string [53, 99]), .lit (.string [54, 99]), .lit (.string [55, 99]), .lit (.string [56, 99]), .lit (.string [57, 99])] [], .slice [.lit (.string [45]), .lit (.string [45]), .lit (.string [50]), .lit (.string [51]), .lit (.string [52]), .lit (.string [53]), .lit (.string [54]), .lit (.string [54]), .lit (.string [56]), .lit (.string [57])] [], .slice [.lit (.string [45]), .lit (.string [45]), .lit (.string [50, 102]), .lit (.string [51, 102]), .lit (.string [50, 102]), .lit (.string [51, 102]), .lit (.string [51, 102]), .lit (.string [51, 102]), .lit (.string [51, 102]), .lit (.string [53, 100, 105, 116])] [], .slice [.lit (.string [45]), .lit (.string [45]), .lit (.string [50]), .lit (.string [51]), .lit (.string [52]), .lit (.string [53]), .lit (.string [54]), .lit (.string [55]), .lit (.string [56]), .lit (.string [57, 101])] []] []

/-- 'umpirelaw27.CellsPlays': WHATEVER THE INPUT: true; the input reads as it did. -/
def cellsPlaysSpec : ChangeSpec := { name := "cellsPlays", fn := fun _ => fun
  | [d1, d2, d3] => { results := [.lit (.bool true)], args := [d1, d2, d3] }
  | _ => none }
def cellsPlaysRow : OpenClaim := { program := "yticdhmcbooabaaadoor", sum := "b28766caac326ec0c0ababbccdda59b99755b8dbca6c8ad0deaea555b5f4d114", func := "umpire/umpirelaw27.CellsPlays", spec := "cellsPlays", unfollowed := true, recurses := true, named := ["umpire/umpireref19.rows"], plainKeys := false, apart := false, laid := [("umpire/umpireref19.rows", laid_umpire_umpireref19_rows)] }
def CellsPlaysSaid : Prop := cellsPlaysRow.holds Tryd.pinned (OpenSpec.ofChange cellsPlaysSpec)

/-- ITS FALSE NEIGHBOUR: 'it returns false'. Refute it at one input. -/
def cellsPlaysWrong : ChangeSpec := { name := "cellsPlays", fn := fun _ => fun
  | [d1, d2, d3] => { results := [.lit (.bool false)], args := [d1, d2, d3] }
  | _ => none }
def CellsPlaysWrongFalsely : Prop := cellsPlaysRow.holds Tryd.pinned (OpenSpec.ofChange cellsPlaysWrong)

/-- 'umpirelaw27.CellsReaches': WHATEVER THE INPUT: true; the input reads as it did. -/
def cellsReachesSpec : ChangeSpec := { name := "cellsReaches", fn := fun _ => fun
  | [d1, d2] => { results := [.lit (.bool true)], args := [d1, d2] }
  | _ => none }
def cellsReachesRow : OpenClaim := { program := "yticdhmcbooabaaadoor", sum := "b28766caac326ec0c0ababbccdda59b99755b8dbca6c8ad0deaea555b5f4d114", func := "umpire/umpirelaw27.CellsReaches", spec := "cellsReaches", unfollowed := true, recurses := true, named := ["umpire/umpireref19.rows"], plainKeys := false, apart := false, laid := [("umpire/umpireref19.rows", laid_umpire_umpireref19_rows)] }
def CellsReachesSaid : Prop := cellsReachesRow.holds Tryd.pinned (OpenSpec.ofChange cellsReachesSpec)

/-- ITS FALSE NEIGHBOUR: 'it returns false'. Refute it at one input. -/
def cellsReachesWrong : ChangeSpec := { name := "cellsReaches", fn := fun _ => fun
  | [d1, d2] => { results := [.lit (.bool false)], args := [d1, d2] }
  | _ => none }
def CellsReachesWrongFalsely : Prop := cellsReachesRow.holds Tryd.pinned (OpenSpec.ofChange cellsReachesWrong)

/-- 'umpirelaw27.CellsKeeps': WHATEVER THE INPUT: true; the input reads as it did. -/
def cellsKeepsSpec : ChangeSpec := { name := "cellsKeeps", fn := fun _ => fun
  | [d1, d2, d3] => { results := [.lit (.bool true)], args := [d1, d2, d3] }
  | _ => none }
def cellsKeepsRow : OpenClaim := { program := "yticdhmcbooabaaadoor", sum := "b28766caac326ec0c0ababbccdda59b99755b8dbca6c8ad0deaea555b5f4d114", func := "umpire/umpirelaw27.CellsKeeps", spec := "cellsKeeps", unfollowed := true, recurses := true, named := ["umpire/umpireref19.rows"], plainKeys := false, apart := false, laid := [("umpire/umpireref19.rows", laid_umpire_umpireref19_rows)] }
def CellsKeepsSaid : Prop := cellsKeepsRow.holds Tryd.pinned (OpenSpec.ofChange cellsKeepsSpec)

/-- ITS FALSE NEIGHBOUR: 'it returns false'. Refute it at one input. -/
def cellsKeepsWrong : ChangeSpec := { name := "cellsKeeps", fn := fun _ => fun
  | [d1, d2, d3] => { results := [.lit (.bool false)], args := [d1, d2, d3] }
  | _ => none }
def CellsKeepsWrongFalsely : Prop := cellsKeepsRow.holds Tryd.pinned (OpenSpec.ofChange cellsKeepsWrong)

/-- 'umpirelaw28.SuiteShortest': WHATEVER THE INPUT: true; the input reads as it did. -/
def suiteShortestSpec : ChangeSpec := { name := "suiteShortest", fn := fun _ => fun
  | [d1, d2, d3] => { results := [.lit (.bool true)], args := [d1, d2, d3] }
  | _ => none }
def suiteShortestRow : OpenClaim := { program := "yticdhmcbooabaaadoor", sum := "b28766caac326ec0c0ababbccdda59b99755b8dbca6c8ad0deaea555b5f4d114", func := "umpire/umpirelaw28.SuiteShortest", spec := "suiteShortest", unfollowed := true, recurses := true, named := ["umpire/umpireref19.rows"], plainKeys := false, apart := false, laid := [("umpire/umpireref19.rows", laid_umpire_umpireref19_rows)] }
def SuiteShortestSaid : Prop := suiteShortestRow.holds Tryd.pinned (OpenSpec.ofChange suiteShortestSpec)

/-- ITS FALSE NEIGHBOUR: 'it returns false'. Refute it at one input. -/
def suiteShortestWrong : ChangeSpec := { name := "suiteShortest", fn := fun _ => fun
  | [d1, d2, d3] => { results := [.lit (.bool false)], args := [d1, d2, d3] }
  | _ => none }
def SuiteShortestWrongFalsely : Prop := suiteShortestRow.holds Tryd.pinned (OpenSpec.ofChange suiteShortestWrong)

/-- 'umpirelaw28.SuiteSteps': WHATEVER THE INPUT: true; the input reads as it did. -/
def suiteStepsSpec : ChangeSpec := { name := "suiteSteps", fn := fun _ => fun
  | [d1, d2, d3, d4] => { results := [.lit (.bool true)], args := [d1, d2, d3, d4] }
  | _ => none }
def suiteStepsRow : OpenClaim := { program := "yticdhmcbooabaaadoor", sum := "b28766caac326ec0c0ababbccdda59b99755b8dbca6c8ad0deaea555b5f4d114", func := "umpire/umpirelaw28.SuiteSteps", spec := "suiteSteps", unfollowed := true, recurses := true, named := ["umpire/umpireref19.rows"], plainKeys := false, apart := false, laid := [("umpire/umpireref19.rows", laid_umpire_umpireref19_rows)] }
def SuiteStepsSaid : Prop := suiteStepsRow.holds Tryd.pinned (OpenSpec.ofChange suiteStepsSpec)

/-- ITS FALSE NEIGHBOUR: 'it returns false'. Refute it at one input. -/
def suiteStepsWrong : ChangeSpec := { name := "suiteSteps", fn := fun _ => fun
  | [d1, d2, d3, d4] => { results := [.lit (.bool false)], args := [d1, d2, d3, d4] }
  | _ => none }
def SuiteStepsWrongFalsely : Prop := suiteStepsRow.holds Tryd.pinned (OpenSpec.ofChange suiteStepsWrong)

/-- 'umpirelaw28.SuiteProbes': WHATEVER THE INPUT: true; the input reads as it did. -/
def suiteProbesSpec : ChangeSpec := { name := "suiteProbes", fn := fun _ => fun
  | [d1, d2, d3] => { results := [.lit (.bool true)], args := [d1, d2, d3] }
  | _ => none }
def suiteProbesRow : OpenClaim := { program := "yticdhmcbooabaaadoor", sum := "b28766caac326ec0c0ababbccdda59b99755b8dbca6c8ad0deaea555b5f4d114", func := "umpire/umpirelaw28.SuiteProbes", spec := "suiteProbes", unfollowed := true, recurses := true, named := ["umpire/umpireref19.rows"], plainKeys := false, apart := false, laid := [("umpire/umpireref19.rows", laid_umpire_umpireref19_rows)] }
def SuiteProbesSaid : Prop := suiteProbesRow.holds Tryd.pinned (OpenSpec.ofChange suiteProbesSpec)

/-- ITS FALSE NEIGHBOUR: 'it returns false'. Refute it at one input. -/
def suiteProbesWrong : ChangeSpec := { name := "suiteProbes", fn := fun _ => fun
  | [d1, d2, d3] => { results := [.lit (.bool false)], args := [d1, d2, d3] }
  | _ => none }
def SuiteProbesWrongFalsely : Prop := suiteProbesRow.holds Tryd.pinned (OpenSpec.ofChange suiteProbesWrong)

/-- 'umpirelaw28.SuiteKeeps': WHATEVER THE INPUT: true; the input reads as it did. -/
def suiteKeepsSpec : ChangeSpec := { name := "suiteKeeps", fn := fun _ => fun
  | [d1, d2, d3, d4] => { results := [.lit (.bool true)], args := [d1, d2, d3, d4] }
  | _ => none }
def suiteKeepsRow : OpenClaim := { program := "yticdhmcbooabaaadoor", sum := "b28766caac326ec0c0ababbccdda59b99755b8dbca6c8ad0deaea555b5f4d114", func := "umpire/umpirelaw28.SuiteKeeps", spec := "suiteKeeps", unfollowed := true, recurses := true, named := ["umpire/umpireref19.rows"], plainKeys := false, apart := false, laid := [("umpire/umpireref19.rows", laid_umpire_umpireref19_rows)] }
def SuiteKeepsSaid : Prop := suiteKeepsRow.holds Tryd.pinned (OpenSpec.ofChange suiteKeepsSpec)

/-- ITS FALSE NEIGHBOUR: 'it returns false'. Refute it at one input. -/
def suiteKeepsWrong : ChangeSpec := { name := "suiteKeeps", fn := fun _ => fun
  | [d1, d2, d3, d4] => { results := [.lit (.bool false)], args := [d1, d2, d3, d4] }
  | _ => none }
def SuiteKeepsWrongFalsely : Prop := suiteKeepsRow.holds Tryd.pinned (OpenSpec.ofChange suiteKeepsWrong)

/-- 'umpirelaw28.SuiteCovers': WHATEVER THE INPUT: true; the input reads as it did. -/
def suiteCoversSpec : ChangeSpec := { name := "suiteCovers", fn := fun _ => fun
  | [d1, d2, d3] => { results := [.lit (.bool true)], args := [d1, d2, d3] }
  | _ => none }
def suiteCoversRow : OpenClaim := { program := "yticdhmcbooabaaadoor", sum := "b28766caac326ec0c0ababbccdda59b99755b8dbca6c8ad0deaea555b5f4d114", func := "umpire/umpirelaw28.SuiteCovers", spec := "suiteCovers", unfollowed := true, recurses := true, named := ["umpire/umpireref19.rows"], plainKeys := false, apart := false, laid := [("umpire/umpireref19.rows", laid_umpire_umpireref19_rows)] }
def SuiteCoversSaid : Prop := suiteCoversRow.holds Tryd.pinned (OpenSpec.ofChange suiteCoversSpec)

/-- ITS FALSE NEIGHBOUR: 'it returns false'. Refute it at one input. -/
def suiteCoversWrong : ChangeSpec := { name := "suiteCovers", fn := fun _ => fun
  | [d1, d2, d3] => { results := [.lit (.bool false)], args := [d1, d2, d3] }
  | _ => none }
def SuiteCoversWrongFalsely : Prop := suiteCoversRow.holds Tryd.pinned (OpenSpec.ofChange suiteCoversWrong)

/- THE SECOND FORM. 'bulk': how many values and letters a reading holds, each counted each time it is reached (what is shared counts as often as it is met; a slice's spare places count too). A statement '..UptoSaid' is the law's where the arguments, and the package variables that the reading takes, are together of bulk at most 1048576: NARROWER than '..Said'. Prove '..Said' where nothing that the law and all that it calls make is longer than what came in: it says more and counts as full. Else prove '..UptoSaid'. A law counts once. -/
mutual
def uptoBulk {H : Type} : DataW H → Nat
  | .lit (.string bytes) => bytes.length + 1
  | .lit _ => 1
  | .nil => 1
  | .ptr d => uptoBulk d + 1
  | .slice elems spare => uptoBulkAll elems + uptoBulkAll spare + 1
  | .agg parts => uptoBulkAll parts + 1
  | .iface _ d => uptoBulk d + 1
  | .map entries => uptoBulkEntries entries + 1
  | .held _ => 1
def uptoBulkAll {H : Type} : List (DataW H) → Nat
  | [] => 0
  | d :: r => uptoBulk d + uptoBulkAll r
def uptoBulkEntries {H : Type} : List (Lit × DataW H) → Nat
  | [] => 0
  | x :: r => uptoBulkEntry x + uptoBulkEntries r
def uptoBulkEntry {H : Type} : Lit × DataW H → Nat
  | (.string bytes, d) => bytes.length + uptoBulk d + 1
  | (_, d) => uptoBulk d + 1
 end
def uptoSmall : (H : Type) → List (DataW H) → Bool := fun _ ds => decide (uptoBulkAll ds ≤ 1048576)
def OpenSpec.upto (s : _root_.Go.ChangeSpec) : _root_.Go.OpenSpec := { _root_.Go.OpenSpec.ofChange s with cond := some uptoSmall }

/-- 'umpirelaw27.CellsPlays', WHERE WHAT IT READS IS OF BULK AT MOST 1048576: true; the input reads as it did. -/
def cellsPlaysUptoRow : OpenClaim := { program := "yticdhmcbooabaaadoor", sum := "b28766caac326ec0c0ababbccdda59b99755b8dbca6c8ad0deaea555b5f4d114", func := "umpire/umpirelaw27.CellsPlays", spec := "cellsPlays", unfollowed := true, recurses := true, named := ["umpire/umpireref19.rows"], plainKeys := false, apart := false, laid := [("umpire/umpireref19.rows", laid_umpire_umpireref19_rows)], narrowed := true }
def CellsPlaysUptoSaid : Prop := cellsPlaysUptoRow.holds Tryd.pinned (OpenSpec.upto cellsPlaysSpec)

/-- 'umpirelaw27.CellsReaches', WHERE WHAT IT READS IS OF BULK AT MOST 1048576: true; the input reads as it did. -/
def cellsReachesUptoRow : OpenClaim := { program := "yticdhmcbooabaaadoor", sum := "b28766caac326ec0c0ababbccdda59b99755b8dbca6c8ad0deaea555b5f4d114", func := "umpire/umpirelaw27.CellsReaches", spec := "cellsReaches", unfollowed := true, recurses := true, named := ["umpire/umpireref19.rows"], plainKeys := false, apart := false, laid := [("umpire/umpireref19.rows", laid_umpire_umpireref19_rows)], narrowed := true }
def CellsReachesUptoSaid : Prop := cellsReachesUptoRow.holds Tryd.pinned (OpenSpec.upto cellsReachesSpec)

/-- 'umpirelaw27.CellsKeeps', WHERE WHAT IT READS IS OF BULK AT MOST 1048576: true; the input reads as it did. -/
def cellsKeepsUptoRow : OpenClaim := { program := "yticdhmcbooabaaadoor", sum := "b28766caac326ec0c0ababbccdda59b99755b8dbca6c8ad0deaea555b5f4d114", func := "umpire/umpirelaw27.CellsKeeps", spec := "cellsKeeps", unfollowed := true, recurses := true, named := ["umpire/umpireref19.rows"], plainKeys := false, apart := false, laid := [("umpire/umpireref19.rows", laid_umpire_umpireref19_rows)], narrowed := true }
def CellsKeepsUptoSaid : Prop := cellsKeepsUptoRow.holds Tryd.pinned (OpenSpec.upto cellsKeepsSpec)

/-- 'umpirelaw28.SuiteShortest', WHERE WHAT IT READS IS OF BULK AT MOST 1048576: true; the input reads as it did. -/
def suiteShortestUptoRow : OpenClaim := { program := "yticdhmcbooabaaadoor", sum := "b28766caac326ec0c0ababbccdda59b99755b8dbca6c8ad0deaea555b5f4d114", func := "umpire/umpirelaw28.SuiteShortest", spec := "suiteShortest", unfollowed := true, recurses := true, named := ["umpire/umpireref19.rows"], plainKeys := false, apart := false, laid := [("umpire/umpireref19.rows", laid_umpire_umpireref19_rows)], narrowed := true }
def SuiteShortestUptoSaid : Prop := suiteShortestUptoRow.holds Tryd.pinned (OpenSpec.upto suiteShortestSpec)

/-- 'umpirelaw28.SuiteSteps', WHERE WHAT IT READS IS OF BULK AT MOST 1048576: true; the input reads as it did. -/
def suiteStepsUptoRow : OpenClaim := { program := "yticdhmcbooabaaadoor", sum := "b28766caac326ec0c0ababbccdda59b99755b8dbca6c8ad0deaea555b5f4d114", func := "umpire/umpirelaw28.SuiteSteps", spec := "suiteSteps", unfollowed := true, recurses := true, named := ["umpire/umpireref19.rows"], plainKeys := false, apart := false, laid := [("umpire/umpireref19.rows", laid_umpire_umpireref19_rows)], narrowed := true }
def SuiteStepsUptoSaid : Prop := suiteStepsUptoRow.holds Tryd.pinned (OpenSpec.upto suiteStepsSpec)

/-- 'umpirelaw28.SuiteProbes', WHERE WHAT IT READS IS OF BULK AT MOST 1048576: true; the input reads as it did. -/
def suiteProbesUptoRow : OpenClaim := { program := "yticdhmcbooabaaadoor", sum := "b28766caac326ec0c0ababbccdda59b99755b8dbca6c8ad0deaea555b5f4d114", func := "umpire/umpirelaw28.SuiteProbes", spec := "suiteProbes", unfollowed := true, recurses := true, named := ["umpire/umpireref19.rows"], plainKeys := false, apart := false, laid := [("umpire/umpireref19.rows", laid_umpire_umpireref19_rows)], narrowed := true }
def SuiteProbesUptoSaid : Prop := suiteProbesUptoRow.holds Tryd.pinned (OpenSpec.upto suiteProbesSpec)

/-- 'umpirelaw28.SuiteKeeps', WHERE WHAT IT READS IS OF BULK AT MOST 1048576: true; the input reads as it did. -/
def suiteKeepsUptoRow : OpenClaim := { program := "yticdhmcbooabaaadoor", sum := "b28766caac326ec0c0ababbccdda59b99755b8dbca6c8ad0deaea555b5f4d114", func := "umpire/umpirelaw28.SuiteKeeps", spec := "suiteKeeps", unfollowed := true, recurses := true, named := ["umpire/umpireref19.rows"], plainKeys := false, apart := false, laid := [("umpire/umpireref19.rows", laid_umpire_umpireref19_rows)], narrowed := true }
def SuiteKeepsUptoSaid : Prop := suiteKeepsUptoRow.holds Tryd.pinned (OpenSpec.upto suiteKeepsSpec)

/-- 'umpirelaw28.SuiteCovers', WHERE WHAT IT READS IS OF BULK AT MOST 1048576: true; the input reads as it did. -/
def suiteCoversUptoRow : OpenClaim := { program := "yticdhmcbooabaaadoor", sum := "b28766caac326ec0c0ababbccdda59b99755b8dbca6c8ad0deaea555b5f4d114", func := "umpire/umpirelaw28.SuiteCovers", spec := "suiteCovers", unfollowed := true, recurses := true, named := ["umpire/umpireref19.rows"], plainKeys := false, apart := false, laid := [("umpire/umpireref19.rows", laid_umpire_umpireref19_rows)], narrowed := true }
def SuiteCoversUptoSaid : Prop := suiteCoversUptoRow.holds Tryd.pinned (OpenSpec.upto suiteCoversSpec)

end Rows
end Go.Proofs.YticdhmcbooabaaaDoor
