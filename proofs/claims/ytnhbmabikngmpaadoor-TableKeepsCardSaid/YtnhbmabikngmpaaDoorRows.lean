/-
  NARROWER THAN 'FOR EVERY INPUT', by the rows' own cells (each row's printed sentence says how): TableLooks: laid · TableEvents: laid · TableKeeps: laid.
  DERIVED. THE GIVEN ROWS OF THIS SEAT. 3 by the template 'for every input the law returns true; each argument reads behind the call as it read before'; 0 by the template 'total and deterministic' (their statements: YtnhbmabikngmpaaDoorTotals.lean).
  GIVEN WITH THE SEED: the statements are not yours to turn. If you find one false, say at which input.
  Laid BY PROGRAM, IN A SANDBOX (cutbox-rows.mjs): the forced cells as the released guide's own fill.sh prints them over the translation 42b21cd7f60e192e… (all of the seat's roots in one cut). By AI agents, Wed Nov 11 2026. No macro, syntax, notation, axiom, sorry.
-/
import Derived.Test.YtnhbmabikngmpaaDoorChecked
import GoSem.Claim
import GoSem.ClaimJoined
import GoSem.ClaimMapViews
import Derived.JoinedTies
import Derived.KernelRfl
namespace Go.Proofs.YtnhbmabikngmpaaDoor
/- THE CELL 'sum', in the pinned program and in every row, IS THE sha256 OF THE DUMP (.gsa) THAT YtnhbmabikngmpaaDoorProg.lean LOADS. Nothing in Lean hashes anything: it is a label: what it is worth is what the hold of that sum in a sandbox is worth. -/
noncomputable def Tryd.pinned : Pinned := { name := "ytnhbmabikngmpaadoor", sum := "42b21cd7f60e192ed6d168b4c73448a4f00456a7b3bc2ede52afa647481ab827", checked := Tryd.checked }
namespace Rows
def none {H : Type} : Left H := { results := [], args := [] }

/- WHAT THE LISTED PACKAGE-LEVEL VARIABLES READ AS WHEN THE CALL BEGINS. Each datum BY PROGRAM (the guide's laid-datum.mjs) off the statement by which the dump's own 'gosem.cut.vars' lays the variable. In a bare row this is a premise. The card (YtnhbmabikngmpaaDoorCards.lean) ties it to the program's text. -/
def laid_umpire_umpireref19_rows {H : Type} : DataW H := .slice [.slice [] [], .slice [.lit (.string [50]), .lit (.string [54, 105, 114]), .lit (.string [45]), .lit (.string [45]), .lit (.string [45]), .lit (.string [45]), .lit (.string [45]), .lit (.string [45]), .lit (.string [45]), .lit (.string [45])] [], .slice [.lit (.string [45]), .lit (.string [45]), .lit (.string [48]), .lit (.string [49, 115]), .lit (.string [48]), .lit (.string [49]), .lit (.string [49]), .lit (.string [49]), .lit (.string [49]), .lit (.string [49, 100])] [], .slice [.lit (.string [49, 115]), .lit (.string [49]), .lit (.string [54, 105, 114]), .lit (.string [51]), .lit (.string [53]), .lit (.string [53]), .lit (.string [54]), .lit (.string [55]), .lit (.string [56]), .lit (.string [57])] [], .slice [.lit (.string [48]), .lit (.string [48, 102]), .lit (.string [50]), .lit (.string [50]), .lit (.string [52]), .lit (.string [52]), .lit (.string [52, 105, 116]), .lit (.string [52, 105, 116]), .lit (.string [52, 105, 116]), .lit (.string [52, 100, 105, 116])] [], .slice [.lit (.string [45]), .lit (.string [45]), .lit (.string [45]), .lit (.string [45]), .lit (.string [52, 116]), .lit (.string [53, 116]), .lit (.string [54, 114]), .lit (.string [54, 114]), .lit (.string [56, 114]), .lit (.string [45])] [], .slice [.lit (.string [45]), .lit (.string [45]), .lit (.string [45]), .lit (.string [45]), .lit (.string [50, 102]), .lit (.string [51, 102]), .lit (.string [51, 102]), .lit (.string [51, 102]), .lit (.string [51, 102]), .lit (.string [45])] [], .slice [.lit (.string [45]), .lit (.string [45]), .lit (.string [50, 107]), .lit (.string [56, 105, 114, 97]), .lit (.string [52]), .lit (.string [53]), .lit (.string [56, 97]), .lit (.string [57, 97, 117]), .lit (.string [56, 97]), .lit (.string [56, 100, 114, 97])] [], .slice [.lit (.string [45]), .lit (.string [45]), .lit (.string [50, 107]), .lit (.string [54, 105, 114, 110]), .lit (.string [52]), .lit (.string [53]), .lit (.string [54, 110]), .lit (.string [55, 110]), .lit (.string [54, 110]), .lit (.string [54, 100, 114, 110])] [], .slice [.lit (.string [45]), .lit (.string [45]), .lit (.string [50, 107]), .lit (.string [51, 107]), .lit (.string [52]), .lit (.string [53]), .lit (.string [55, 105]), .lit (.string [54, 114]), .lit (.string [57, 105, 117]), .lit (.string [54, 100, 114])] [], .slice [.lit (.string [45]), .lit (.string [45]), .lit (.string [50, 107]), .lit (.string [51, 107]), .lit (.string [52]), .lit (.string [53]), .lit (.string [54, 105, 114]), .lit (.string [54, 114]), .lit (.string [56, 105, 114]), .lit (.string [54, 100, 114])] [], .slice [.lit (.string [45]), .lit (.string [45]), .lit (.string [50, 107]), .lit (.string [51, 107]), .lit (.string [52, 107]), .lit (.string [53, 107]), .lit (.string [54, 107]), .lit (.string [54, 107]), .lit (.string [54, 107]), .lit (.string [53, 100, 122, 107])] [], .slice [.lit (.string [45]), .lit (.string [45]), .lit (.string [50]), .lit (.string [51]), .lit (.string [50, 102]), .lit (.string [51, 102]), .lit (.string [54]), .lit (.string [54]), .lit (.string [56]), .lit (.string [54, 100, 114])] [], .slice [.lit (.string [45]), .lit (.string [45]), .lit (.string [50, 99]), .lit (.string [51, 99]), .lit (.string [52, 99]), .lit (.string [53, 99]), .lit (.string [54, 99]), .lit (.string [55, 99]), .lit (.string [56, 99]), .lit (.string [57, 99])] [], .slice [.lit (.string [45]), .lit (.string [45]), .lit (.string [50]), .lit (.string [51]), .lit (.string [52]), .lit (.string [53]), .lit (.string [54]), .lit (.string [54]), .lit (.string [56]), .lit (.string [57])] [], .slice [.lit (.string [45]), .lit (.string [45]), .lit (.string [50, 102]), .lit (.string [51, 102]), .lit (.string [50, 102]), .lit (.string [51, 102]), .lit (.string [51, 102]), .lit (.string [51, 102]), .lit (.string [51, 102]), .lit (.string [53, 100, 105, 116])] [], .slice [.lit (.string [45]), .lit (.string [45]), .lit (.string [50]), .lit (.string [51]), .lit (.string [52]), .lit (.string [53]), .lit (.string [54]), .lit (.string [55]), .lit (.string [56]), .lit (.string [57, 101])] []] []

/-- 'umpirelaw19.TableLooks': WHATEVER THE INPUT: true; the input reads as it did. -/
def tableLooksSpec : ChangeSpec := { name := "tableLooks", fn := fun _ => fun
  | [d1, d2] => { results := [.lit (.bool true)], args := [d1, d2] }
  | _ => none }
def tableLooksRow : OpenClaim := { program := "ytnhbmabikngmpaadoor", sum := "42b21cd7f60e192ed6d168b4c73448a4f00456a7b3bc2ede52afa647481ab827", func := "umpire/umpirelaw19.TableLooks", spec := "tableLooks", named := ["umpire/umpireref19.rows"], apart := false, laid := [("umpire/umpireref19.rows", laid_umpire_umpireref19_rows)] }
def TableLooksSaid : Prop := tableLooksRow.holds Tryd.pinned (OpenSpec.ofChange tableLooksSpec)

/-- ITS FALSE NEIGHBOUR: 'it returns false'. Refute it at one input. -/
def tableLooksWrong : ChangeSpec := { name := "tableLooks", fn := fun _ => fun
  | [d1, d2] => { results := [.lit (.bool false)], args := [d1, d2] }
  | _ => none }
def TableLooksWrongFalsely : Prop := tableLooksRow.holds Tryd.pinned (OpenSpec.ofChange tableLooksWrong)

/-- 'umpirelaw19.TableEvents': WHATEVER THE INPUT: true; the input reads as it did. -/
def tableEventsSpec : ChangeSpec := { name := "tableEvents", fn := fun _ => fun
  | [d1, d2] => { results := [.lit (.bool true)], args := [d1, d2] }
  | _ => none }
def tableEventsRow : OpenClaim := { program := "ytnhbmabikngmpaadoor", sum := "42b21cd7f60e192ed6d168b4c73448a4f00456a7b3bc2ede52afa647481ab827", func := "umpire/umpirelaw19.TableEvents", spec := "tableEvents", named := ["umpire/umpireref19.rows"], apart := false, laid := [("umpire/umpireref19.rows", laid_umpire_umpireref19_rows)] }
def TableEventsSaid : Prop := tableEventsRow.holds Tryd.pinned (OpenSpec.ofChange tableEventsSpec)

/-- ITS FALSE NEIGHBOUR: 'it returns false'. Refute it at one input. -/
def tableEventsWrong : ChangeSpec := { name := "tableEvents", fn := fun _ => fun
  | [d1, d2] => { results := [.lit (.bool false)], args := [d1, d2] }
  | _ => none }
def TableEventsWrongFalsely : Prop := tableEventsRow.holds Tryd.pinned (OpenSpec.ofChange tableEventsWrong)

/-- 'umpirelaw19.TableKeeps': WHATEVER THE INPUT: true; the input reads as it did. -/
def tableKeepsSpec : ChangeSpec := { name := "tableKeeps", fn := fun _ => fun
  | [d1, d2] => { results := [.lit (.bool true)], args := [d1, d2] }
  | _ => none }
def tableKeepsRow : OpenClaim := { program := "ytnhbmabikngmpaadoor", sum := "42b21cd7f60e192ed6d168b4c73448a4f00456a7b3bc2ede52afa647481ab827", func := "umpire/umpirelaw19.TableKeeps", spec := "tableKeeps", named := ["umpire/umpireref19.rows"], apart := false, laid := [("umpire/umpireref19.rows", laid_umpire_umpireref19_rows)] }
def TableKeepsSaid : Prop := tableKeepsRow.holds Tryd.pinned (OpenSpec.ofChange tableKeepsSpec)

/-- ITS FALSE NEIGHBOUR: 'it returns false'. Refute it at one input. -/
def tableKeepsWrong : ChangeSpec := { name := "tableKeeps", fn := fun _ => fun
  | [d1, d2] => { results := [.lit (.bool false)], args := [d1, d2] }
  | _ => none }
def TableKeepsWrongFalsely : Prop := tableKeepsRow.holds Tryd.pinned (OpenSpec.ofChange tableKeepsWrong)

/- THE SECOND FORM. 'bulk': how many values and letters a reading holds, each counted each time it is reached (what is shared counts as often as it is met; a slice's spare places count too). A statement '..UptoSaid' is the law's where the arguments, and the package variables that the reading takes, are together of bulk at most 1048576: NARROWER than '..Said'. Prove '..Said' where nothing that the law and all that it calls make is longer than what came in: it says more and counts as full. Else prove '..UptoSaid'. A law counts once. -/
mutual
def uptoBulk {H : Type} : DataW H → Nat
  | .lit (.string bytes) => bytes.length + 1
  | .lit _ => 1
  | .nil => 1
  | .ptr d => uptoBulk d + 1
  | .slice elems spare => uptoBulkAll elems + uptoBulkAll spare + 1
  | .agg parts => uptoBulkAll parts + 1
  | .iface _ d => uptoBulk d + 1
  | .map entries => uptoBulkEntries entries + 1
  | .held _ => 1
def uptoBulkAll {H : Type} : List (DataW H) → Nat
  | [] => 0
  | d :: r => uptoBulk d + uptoBulkAll r
def uptoBulkEntries {H : Type} : List (Lit × DataW H) → Nat
  | [] => 0
  | x :: r => uptoBulkEntry x + uptoBulkEntries r
def uptoBulkEntry {H : Type} : Lit × DataW H → Nat
  | (.string bytes, d) => bytes.length + uptoBulk d + 1
  | (_, d) => uptoBulk d + 1
 end
def uptoSmall : (H : Type) → List (DataW H) → Bool := fun _ ds => decide (uptoBulkAll ds ≤ 1048576)
def OpenSpec.upto (s : _root_.Go.ChangeSpec) : _root_.Go.OpenSpec := { _root_.Go.OpenSpec.ofChange s with cond := some uptoSmall }

/-- 'umpirelaw19.TableLooks', WHERE WHAT IT READS IS OF BULK AT MOST 1048576: true; the input reads as it did. -/
def tableLooksUptoRow : OpenClaim := { program := "ytnhbmabikngmpaadoor", sum := "42b21cd7f60e192ed6d168b4c73448a4f00456a7b3bc2ede52afa647481ab827", func := "umpire/umpirelaw19.TableLooks", spec := "tableLooks", named := ["umpire/umpireref19.rows"], apart := false, laid := [("umpire/umpireref19.rows", laid_umpire_umpireref19_rows)], narrowed := true }
def TableLooksUptoSaid : Prop := tableLooksUptoRow.holds Tryd.pinned (OpenSpec.upto tableLooksSpec)

/-- 'umpirelaw19.TableEvents', WHERE WHAT IT READS IS OF BULK AT MOST 1048576: true; the input reads as it did. -/
def tableEventsUptoRow : OpenClaim := { program := "ytnhbmabikngmpaadoor", sum := "42b21cd7f60e192ed6d168b4c73448a4f00456a7b3bc2ede52afa647481ab827", func := "umpire/umpirelaw19.TableEvents", spec := "tableEvents", named := ["umpire/umpireref19.rows"], apart := false, laid := [("umpire/umpireref19.rows", laid_umpire_umpireref19_rows)], narrowed := true }
def TableEventsUptoSaid : Prop := tableEventsUptoRow.holds Tryd.pinned (OpenSpec.upto tableEventsSpec)

/-- 'umpirelaw19.TableKeeps', WHERE WHAT IT READS IS OF BULK AT MOST 1048576: true; the input reads as it did. -/
def tableKeepsUptoRow : OpenClaim := { program := "ytnhbmabikngmpaadoor", sum := "42b21cd7f60e192ed6d168b4c73448a4f00456a7b3bc2ede52afa647481ab827", func := "umpire/umpirelaw19.TableKeeps", spec := "tableKeeps", named := ["umpire/umpireref19.rows"], apart := false, laid := [("umpire/umpireref19.rows", laid_umpire_umpireref19_rows)], narrowed := true }
def TableKeepsUptoSaid : Prop := tableKeepsUptoRow.holds Tryd.pinned (OpenSpec.upto tableKeepsSpec)

end Rows
end Go.Proofs.YtnhbmabikngmpaaDoor
