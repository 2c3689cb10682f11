/-
  No cell of these rows narrows 'for every input' (looked for: loops, veiled, ifaces, maps, wideKeys, modest, calm, conditions, laid).
  DERIVED. THE GIVEN ROWS OF THIS SEAT. 3 by the template 'for every input the law returns true; each argument reads behind the call as it read before'; 0 by the template 'total and deterministic' (their statements: YticdhmcbooabaaaTotals.lean).
  GIVEN WITH THE SEED: the statements are not yours to turn. If you find one false, say at which input.
  Laid BY PROGRAM, IN A SANDBOX (cutbox-rows.mjs): the forced cells as the released guide's own fill.sh prints them over the translation 25538d649f9e0f7a… (all of the seat's roots in one cut). By AI agents, Wed Nov 11 2026. No macro, syntax, notation, axiom, sorry.
-/
import Derived.Test.YticdhmcbooabaaaChecked
import GoSem.Claim
import GoSem.ClaimJoined
import GoSem.ClaimMapViews
import Derived.JoinedTies
import Derived.KernelRfl
namespace Go.Proofs.Yticdhmcbooabaaa
/- THE CELL 'sum', in the pinned program and in every row, IS THE sha256 OF THE DUMP (.gsa) THAT YticdhmcbooabaaaProg.lean LOADS. Nothing in Lean hashes anything: it is a label: what it is worth is what the hold of that sum in a sandbox is worth. -/
noncomputable def Try.pinned : Pinned := { name := "yticdhmcbooabaaa", sum := "25538d649f9e0f7adde3c6308b864adbe396f60b89e04a6583b32b579d33e8a5", checked := Try.checked }
namespace Rows
def none {H : Type} : Left H := { results := [], args := [] }

/-- 'umpirelaw27.CellsReach': WHATEVER THE INPUT: true; the input reads as it did. -/
def cellsReachSpec : ChangeSpec := { name := "cellsReach", fn := fun _ => fun
  | [d1, d2, d3] => { results := [.lit (.bool true)], args := [d1, d2, d3] }
  | _ => none }
def cellsReachRow : OpenClaim := { program := "yticdhmcbooabaaa", sum := "25538d649f9e0f7adde3c6308b864adbe396f60b89e04a6583b32b579d33e8a5", func := "umpire/umpirelaw27.CellsReach", spec := "cellsReach", unfollowed := true, recurses := true, plainKeys := false, apart := false }
def CellsReachSaid : Prop := cellsReachRow.holds Try.pinned (OpenSpec.ofChange cellsReachSpec)

/-- ITS FALSE NEIGHBOUR: 'it returns false'. Refute it at one input. -/
def cellsReachWrong : ChangeSpec := { name := "cellsReach", fn := fun _ => fun
  | [d1, d2, d3] => { results := [.lit (.bool false)], args := [d1, d2, d3] }
  | _ => none }
def CellsReachWrongFalsely : Prop := cellsReachRow.holds Try.pinned (OpenSpec.ofChange cellsReachWrong)

/-- 'umpirelaw27.CellsBlank': WHATEVER THE INPUT: true; the input reads as it did. -/
def cellsBlankSpec : ChangeSpec := { name := "cellsBlank", fn := fun _ => fun
  | [d1, d2, d3, d4] => { results := [.lit (.bool true)], args := [d1, d2, d3, d4] }
  | _ => none }
def cellsBlankRow : OpenClaim := { program := "yticdhmcbooabaaa", sum := "25538d649f9e0f7adde3c6308b864adbe396f60b89e04a6583b32b579d33e8a5", func := "umpire/umpirelaw27.CellsBlank", spec := "cellsBlank", unfollowed := true, recurses := true, plainKeys := false, apart := false }
def CellsBlankSaid : Prop := cellsBlankRow.holds Try.pinned (OpenSpec.ofChange cellsBlankSpec)

/-- ITS FALSE NEIGHBOUR: 'it returns false'. Refute it at one input. -/
def cellsBlankWrong : ChangeSpec := { name := "cellsBlank", fn := fun _ => fun
  | [d1, d2, d3, d4] => { results := [.lit (.bool false)], args := [d1, d2, d3, d4] }
  | _ => none }
def CellsBlankWrongFalsely : Prop := cellsBlankRow.holds Try.pinned (OpenSpec.ofChange cellsBlankWrong)

/-- 'umpirelaw27.CellsParts': WHATEVER THE INPUT: true; the input reads as it did. -/
def cellsPartsSpec : ChangeSpec := { name := "cellsParts", fn := fun _ => fun
  | [d1, d2, d3, d4, d5] => { results := [.lit (.bool true)], args := [d1, d2, d3, d4, d5] }
  | _ => none }
def cellsPartsRow : OpenClaim := { program := "yticdhmcbooabaaa", sum := "25538d649f9e0f7adde3c6308b864adbe396f60b89e04a6583b32b579d33e8a5", func := "umpire/umpirelaw27.CellsParts", spec := "cellsParts", unfollowed := true, recurses := true, plainKeys := false, apart := false }
def CellsPartsSaid : Prop := cellsPartsRow.holds Try.pinned (OpenSpec.ofChange cellsPartsSpec)

/-- ITS FALSE NEIGHBOUR: 'it returns false'. Refute it at one input. -/
def cellsPartsWrong : ChangeSpec := { name := "cellsParts", fn := fun _ => fun
  | [d1, d2, d3, d4, d5] => { results := [.lit (.bool false)], args := [d1, d2, d3, d4, d5] }
  | _ => none }
def CellsPartsWrongFalsely : Prop := cellsPartsRow.holds Try.pinned (OpenSpec.ofChange cellsPartsWrong)

/- THE SECOND FORM. 'bulk': how many values and letters a reading holds, each counted each time it is reached (what is shared counts as often as it is met; a slice's spare places count too). A statement '..UptoSaid' is the law's where the arguments, and the package variables that the reading takes, are together of bulk at most 1048576: NARROWER than '..Said'. Prove '..Said' where nothing that the law and all that it calls make is longer than what came in: it says more and counts as full. Else prove '..UptoSaid'. A law counts once. -/
mutual
def uptoBulk {H : Type} : DataW H → Nat
  | .lit (.string bytes) => bytes.length + 1
  | .lit _ => 1
  | .nil => 1
  | .ptr d => uptoBulk d + 1
  | .slice elems spare => uptoBulkAll elems + uptoBulkAll spare + 1
  | .agg parts => uptoBulkAll parts + 1
  | .iface _ d => uptoBulk d + 1
  | .map entries => uptoBulkEntries entries + 1
  | .held _ => 1
def uptoBulkAll {H : Type} : List (DataW H) → Nat
  | [] => 0
  | d :: r => uptoBulk d + uptoBulkAll r
def uptoBulkEntries {H : Type} : List (Lit × DataW H) → Nat
  | [] => 0
  | x :: r => uptoBulkEntry x + uptoBulkEntries r
def uptoBulkEntry {H : Type} : Lit × DataW H → Nat
  | (.string bytes, d) => bytes.length + uptoBulk d + 1
  | (_, d) => uptoBulk d + 1
 end
def uptoSmall : (H : Type) → List (DataW H) → Bool := fun _ ds => decide (uptoBulkAll ds ≤ 1048576)
def OpenSpec.upto (s : _root_.Go.ChangeSpec) : _root_.Go.OpenSpec := { _root_.Go.OpenSpec.ofChange s with cond := some uptoSmall }

/-- 'umpirelaw27.CellsReach', WHERE WHAT IT READS IS OF BULK AT MOST 1048576: true; the input reads as it did. -/
def cellsReachUptoRow : OpenClaim := { program := "yticdhmcbooabaaa", sum := "25538d649f9e0f7adde3c6308b864adbe396f60b89e04a6583b32b579d33e8a5", func := "umpire/umpirelaw27.CellsReach", spec := "cellsReach", unfollowed := true, recurses := true, plainKeys := false, apart := false, narrowed := true }
def CellsReachUptoSaid : Prop := cellsReachUptoRow.holds Try.pinned (OpenSpec.upto cellsReachSpec)

/-- 'umpirelaw27.CellsBlank', WHERE WHAT IT READS IS OF BULK AT MOST 1048576: true; the input reads as it did. -/
def cellsBlankUptoRow : OpenClaim := { program := "yticdhmcbooabaaa", sum := "25538d649f9e0f7adde3c6308b864adbe396f60b89e04a6583b32b579d33e8a5", func := "umpire/umpirelaw27.CellsBlank", spec := "cellsBlank", unfollowed := true, recurses := true, plainKeys := false, apart := false, narrowed := true }
def CellsBlankUptoSaid : Prop := cellsBlankUptoRow.holds Try.pinned (OpenSpec.upto cellsBlankSpec)

/-- 'umpirelaw27.CellsParts', WHERE WHAT IT READS IS OF BULK AT MOST 1048576: true; the input reads as it did. -/
def cellsPartsUptoRow : OpenClaim := { program := "yticdhmcbooabaaa", sum := "25538d649f9e0f7adde3c6308b864adbe396f60b89e04a6583b32b579d33e8a5", func := "umpire/umpirelaw27.CellsParts", spec := "cellsParts", unfollowed := true, recurses := true, plainKeys := false, apart := false, narrowed := true }
def CellsPartsUptoSaid : Prop := cellsPartsUptoRow.holds Try.pinned (OpenSpec.upto cellsPartsSpec)

end Rows
end Go.Proofs.Yticdhmcbooabaaa
