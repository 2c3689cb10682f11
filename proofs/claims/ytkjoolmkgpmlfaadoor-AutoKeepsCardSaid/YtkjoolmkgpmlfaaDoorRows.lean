/-
  NARROWER THAN 'FOR EVERY INPUT', by the rows' own cells (each row's printed sentence says how): AutoSteps: laid · AutoRuns: laid · AutoKeeps: laid.
  DERIVED. THE GIVEN ROWS OF THIS SEAT. 3 by the template 'for every input the law returns true; each argument reads behind the call as it read before'; 0 by the template 'total and deterministic' (their statements: YtkjoolmkgpmlfaaDoorTotals.lean).
  GIVEN WITH THE SEED: the statements are not yours to turn. If you find one false, say at which input.
  Laid BY PROGRAM, IN A SANDBOX (cutbox-rows.mjs): the forced cells as the released guide's own fill.sh prints them over the translation a3e8627bf4264e9a… (all of the seat's roots in one cut). By AI agents, Wed Nov 11 2026. No macro, syntax, notation, axiom, sorry.
-/
import Derived.Test.YtkjoolmkgpmlfaaDoorChecked
import GoSem.Claim
import GoSem.ClaimJoined
import GoSem.ClaimMapViews
import Derived.JoinedTies
import Derived.KernelRfl
namespace Go.Proofs.YtkjoolmkgpmlfaaDoor
/- THE CELL 'sum', in the pinned program and in every row, IS THE sha256 OF THE DUMP (.gsa) THAT YtkjoolmkgpmlfaaDoorProg.lean LOADS. Nothing in Lean hashes anything: it is a label: what it is worth is what the hold of that sum in a sandbox is worth. -/
noncomputable def Tryd.pinned : Pinned := { name := "ytkjoolmkgpmlfaadoor", sum := "a3e8627bf4264e9a501147eb74b93be10aad07a76cac3b8511b7cf44feac84e8", checked := Tryd.checked }
namespace Rows
def none {H : Type} : Left H := { results := [], args := [] }

/- WHAT THE LISTED PACKAGE-LEVEL VARIABLES READ AS WHEN THE CALL BEGINS. Each datum BY PROGRAM (the guide's laid-datum.mjs) off the statement by which the dump's own 'gosem.cut.vars' lays the variable. In a bare row this is a premise. The card (YtkjoolmkgpmlfaaDoorCards.lean) ties it to the program's text. -/
def laid_umpire_umpireref19_rows {H : Type} : DataW H := .slice [.slice [] [], .slice [.lit (.string [50]), .lit (.string [54, 105, 114]), .lit (.string [45]), .lit (.string [45]), .lit (.string [45]), .lit (.string [45]), .lit (.string [45]), .lit (.string [45]), .lit (.string [45]), .lit (.string [45])] [], .slice [.lit (.string [45]), .lit (.string [45]), .lit (.string [48]), .lit (.string [49, 115]), .lit (.string [48]), .lit (.string [49]), .lit (.string [49]), .lit (.string [49]), .lit (.string [49]), .lit (.string [49, 100])] [], .slice [.lit (.string [49, 115]), .lit (.string [49]), .lit (.string [54, 105, 114]), .lit (.string [51]), .lit (.string [53]), .lit (.string [53]), .lit (.string [54]), .lit (.string [55]), .lit (.string [56]), .lit (.string [57])] [], .slice [.lit (.string [48]), .lit (.string [48, 102]), .lit (.string [50]), .lit (.string [50]), .lit (.string [52]), .lit (.string [52]), .lit (.string [52, 105, 116]), .lit (.string [52, 105, 116]), .lit (.string [52, 105, 116]), .lit (.string [52, 100, 105, 116])] [], .slice [.lit (.string [45]), .lit (.string [45]), .lit (.string [45]), .lit (.string [45]), .lit (.string [52, 116]), .lit (.string [53, 116]), .lit (.string [54, 114]), .lit (.string [54, 114]), .lit (.string [56, 114]), .lit (.string [45])] [], .slice [.lit (.string [45]), .lit (.string [45]), .lit (.string [45]), .lit (.string [45]), .lit (.string [50, 102]), .lit (.string [51, 102]), .lit (.string [51, 102]), .lit (.string [51, 102]), .lit (.string [51, 102]), .lit (.string [45])] [], .slice [.lit (.string [45]), .lit (.string [45]), .lit (.string [50, 107]), .lit (.string [56, 105, 114, 97]), .lit (.string [52]), .lit (.string [53]), .lit (.string [56, 97]), .lit (.string [57, 97, 117]), .lit (.string [56, 97]), .lit (.string [56, 100, 114, 97])] [], .slice [.lit (.string [45]), .lit (.string [45]), .lit (.string [50, 107]), .lit (.string [54, 105, 114, 110]), .lit (.string [52]), .lit (.string [53]), .lit (.string [54, 110]), .lit (.string [55, 110]), .lit (.string [54, 110]), .lit (.string [54, 100, 114, 110])] [], .slice [.lit (.string [45]), .lit (.string [45]), .lit (.string [50, 107]), .lit (.string [51, 107]), .lit (.string [52]), .lit (.string [53]), .lit (.string [55, 105]), .lit (.string [54, 114]), .lit (.string [57, 105, 117]), .lit (.string [54, 100, 114])] [], .slice [.lit (.string [45]), .lit (.string [45]), .lit (.string [50, 107]), .lit (.string [51, 107]), .lit (.string [52]), .lit (.string [53]), .lit (.string [54, 105, 114]), .lit (.string [54, 114]), .lit (.string [56, 105, 114]), .lit (.string [54, 100, 114])] [], .slice [.lit (.string [45]), .lit (.string [45]), .lit (.string [50, 107]), .lit (.string [51, 107]), .lit (.string [52, 107]), .lit (.string [53, 107]), .lit (.string [54, 107]), .lit (.string [54, 107]), .lit (.string [54, 107]), .lit (.string [53, 100, 122, 107])] [], .slice [.lit (.string [45]), .lit (.string [45]), .lit (.string [50]), .lit (.string [51]), .lit (.string [50, 102]), .lit (.string [51, 102]), .lit (.string [54]), .lit (.string [54]), .lit (.string [56]), .lit (.string [54, 100, 114])] [], .slice [.lit (.string [45]), .lit (.string [45]), .lit (.string [50, 99]), .lit (.string [51, 99]), .lit (.string [52, 99]), .lit (.string [53, 99]), .lit (.string [54, 99]), .lit (.string [55, 99]), .lit (.string [56, 99]), .lit (.string [57, 99])] [], .slice [.lit (.string [45]), .lit (.string [45]), .lit (.string [50]), .lit (.string [51]), .lit (.string [52]), .lit (.string [53]), .lit (.string [54]), .lit (.string [54]), .lit (.string [56]), .lit (.string [57])] [], .slice [.lit (.string [45]), .lit (.string [45]), .lit (.string [50, 102]), .lit (.string [51, 102]), .lit (.string [50, 102]), .lit (.string [51, 102]), .lit (.string [51, 102]), .lit (.string [51, 102]), .lit (.string [51, 102]), .lit (.string [53, 100, 105, 116])] [], .slice [.lit (.string [45]), .lit (.string [45]), .lit (.string [50]), .lit (.string [51]), .lit (.string [52]), .lit (.string [53]), .lit (.string [54]), .lit (.string [55]), .lit (.string [56]), .lit (.string [57, 101])] []] []

/-- 'umpirelaw20.AutoSteps': WHATEVER THE INPUT: true; the input reads as it did. -/
def autoStepsSpec : ChangeSpec := { name := "autoSteps", fn := fun _ => fun
  | [d1, d2, d3, d4] => { results := [.lit (.bool true)], args := [d1, d2, d3, d4] }
  | _ => none }
def autoStepsRow : OpenClaim := { program := "ytkjoolmkgpmlfaadoor", sum := "a3e8627bf4264e9a501147eb74b93be10aad07a76cac3b8511b7cf44feac84e8", func := "umpire/umpirelaw20.AutoSteps", spec := "autoSteps", named := ["umpire/umpireref19.rows"], apart := false, laid := [("umpire/umpireref19.rows", laid_umpire_umpireref19_rows)] }
def AutoStepsSaid : Prop := autoStepsRow.holds Tryd.pinned (OpenSpec.ofChange autoStepsSpec)

/-- ITS FALSE NEIGHBOUR: 'it returns false'. Refute it at one input. -/
def autoStepsWrong : ChangeSpec := { name := "autoSteps", fn := fun _ => fun
  | [d1, d2, d3, d4] => { results := [.lit (.bool false)], args := [d1, d2, d3, d4] }
  | _ => none }
def AutoStepsWrongFalsely : Prop := autoStepsRow.holds Tryd.pinned (OpenSpec.ofChange autoStepsWrong)

/-- 'umpirelaw20.AutoRuns': WHATEVER THE INPUT: true; the input reads as it did. -/
def autoRunsSpec : ChangeSpec := { name := "autoRuns", fn := fun _ => fun
  | [d1, d2, d3] => { results := [.lit (.bool true)], args := [d1, d2, d3] }
  | _ => none }
def autoRunsRow : OpenClaim := { program := "ytkjoolmkgpmlfaadoor", sum := "a3e8627bf4264e9a501147eb74b93be10aad07a76cac3b8511b7cf44feac84e8", func := "umpire/umpirelaw20.AutoRuns", spec := "autoRuns", named := ["umpire/umpireref19.rows"], apart := false, laid := [("umpire/umpireref19.rows", laid_umpire_umpireref19_rows)] }
def AutoRunsSaid : Prop := autoRunsRow.holds Tryd.pinned (OpenSpec.ofChange autoRunsSpec)

/-- ITS FALSE NEIGHBOUR: 'it returns false'. Refute it at one input. -/
def autoRunsWrong : ChangeSpec := { name := "autoRuns", fn := fun _ => fun
  | [d1, d2, d3] => { results := [.lit (.bool false)], args := [d1, d2, d3] }
  | _ => none }
def AutoRunsWrongFalsely : Prop := autoRunsRow.holds Tryd.pinned (OpenSpec.ofChange autoRunsWrong)

/-- 'umpirelaw20.AutoKeeps': WHATEVER THE INPUT: true; the input reads as it did. -/
def autoKeepsSpec : ChangeSpec := { name := "autoKeeps", fn := fun _ => fun
  | [d1, d2] => { results := [.lit (.bool true)], args := [d1, d2] }
  | _ => none }
def autoKeepsRow : OpenClaim := { program := "ytkjoolmkgpmlfaadoor", sum := "a3e8627bf4264e9a501147eb74b93be10aad07a76cac3b8511b7cf44feac84e8", func := "umpire/umpirelaw20.AutoKeeps", spec := "autoKeeps", named := ["umpire/umpireref19.rows"], apart := false, laid := [("umpire/umpireref19.rows", laid_umpire_umpireref19_rows)] }
def AutoKeepsSaid : Prop := autoKeepsRow.holds Tryd.pinned (OpenSpec.ofChange autoKeepsSpec)

/-- ITS FALSE NEIGHBOUR: 'it returns false'. Refute it at one input. -/
def autoKeepsWrong : ChangeSpec := { name := "autoKeeps", fn := fun _ => fun
  | [d1, d2] => { results := [.lit (.bool false)], args := [d1, d2] }
  | _ => none }
def AutoKeepsWrongFalsely : Prop := autoKeepsRow.holds Tryd.pinned (OpenSpec.ofChange autoKeepsWrong)

/- THE SECOND FORM. 'bulk': how many values and letters a reading holds, each counted each time it is reached (what is shared counts as often as it is met; a slice's spare places count too). A statement '..UptoSaid' is the law's where the arguments, and the package variables that the reading takes, are together of bulk at most 1048576: NARROWER than '..Said'. Prove '..Said' where nothing that the law and all that it calls make is longer than what came in: it says more and counts as full. Else prove '..UptoSaid'. A law counts once. -/
mutual
def uptoBulk {H : Type} : DataW H → Nat
  | .lit (.string bytes) => bytes.length + 1
  | .lit _ => 1
  | .nil => 1
  | .ptr d => uptoBulk d + 1
  | .slice elems spare => uptoBulkAll elems + uptoBulkAll spare + 1
  | .agg parts => uptoBulkAll parts + 1
  | .iface _ d => uptoBulk d + 1
  | .map entries => uptoBulkEntries entries + 1
  | .held _ => 1
def uptoBulkAll {H : Type} : List (DataW H) → Nat
  | [] => 0
  | d :: r => uptoBulk d + uptoBulkAll r
def uptoBulkEntries {H : Type} : List (Lit × DataW H) → Nat
  | [] => 0
  | x :: r => uptoBulkEntry x + uptoBulkEntries r
def uptoBulkEntry {H : Type} : Lit × DataW H → Nat
  | (.string bytes, d) => bytes.length + uptoBulk d + 1
  | (_, d) => uptoBulk d + 1
 end
def uptoSmall : (H : Type) → List (DataW H) → Bool := fun _ ds => decide (uptoBulkAll ds ≤ 1048576)
def OpenSpec.upto (s : _root_.Go.ChangeSpec) : _root_.Go.OpenSpec := { _root_.Go.OpenSpec.ofChange s with cond := some uptoSmall }

/-- 'umpirelaw20.AutoSteps', WHERE WHAT IT READS IS OF BULK AT MOST 1048576: true; the input reads as it did. -/
def autoStepsUptoRow : OpenClaim := { program := "ytkjoolmkgpmlfaadoor", sum := "a3e8627bf4264e9a501147eb74b93be10aad07a76cac3b8511b7cf44feac84e8", func := "umpire/umpirelaw20.AutoSteps", spec := "autoSteps", named := ["umpire/umpireref19.rows"], apart := false, laid := [("umpire/umpireref19.rows", laid_umpire_umpireref19_rows)], narrowed := true }
def AutoStepsUptoSaid : Prop := autoStepsUptoRow.holds Tryd.pinned (OpenSpec.upto autoStepsSpec)

/-- 'umpirelaw20.AutoRuns', WHERE WHAT IT READS IS OF BULK AT MOST 1048576: true; the input reads as it did. -/
def autoRunsUptoRow : OpenClaim := { program := "ytkjoolmkgpmlfaadoor", sum := "a3e8627bf4264e9a501147eb74b93be10aad07a76cac3b8511b7cf44feac84e8", func := "umpire/umpirelaw20.AutoRuns", spec := "autoRuns", named := ["umpire/umpireref19.rows"], apart := false, laid := [("umpire/umpireref19.rows", laid_umpire_umpireref19_rows)], narrowed := true }
def AutoRunsUptoSaid : Prop := autoRunsUptoRow.holds Tryd.pinned (OpenSpec.upto autoRunsSpec)

/-- 'umpirelaw20.AutoKeeps', WHERE WHAT IT READS IS OF BULK AT MOST 1048576: true; the input reads as it did. -/
def autoKeepsUptoRow : OpenClaim := { program := "ytkjoolmkgpmlfaadoor", sum := "a3e8627bf4264e9a501147eb74b93be10aad07a76cac3b8511b7cf44feac84e8", func := "umpire/umpirelaw20.AutoKeeps", spec := "autoKeeps", named := ["umpire/umpireref19.rows"], apart := false, laid := [("umpire/umpireref19.rows", laid_umpire_umpireref19_rows)], narrowed := true }
def AutoKeepsUptoSaid : Prop := autoKeepsUptoRow.holds Tryd.pinned (OpenSpec.upto autoKeepsSpec)

end Rows
end Go.Proofs.YtkjoolmkgpmlfaaDoor
