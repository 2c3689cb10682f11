/-
  No cell of these rows narrows 'for every input' (looked for: loops, veiled, ifaces, maps, wideKeys, modest, calm, conditions, laid).
  DERIVED. THE GIVEN ROWS OF THIS SEAT. 6 by the template 'for every input the law returns true; each argument reads behind the call as it read before'; 0 by the template 'total and deterministic' (their statements: YtpcocbgicckcgaaTotals.lean).
  GIVEN WITH THE SEED: the statements are not yours to turn. If you find one false, say at which input.
  Laid BY PROGRAM, IN A SANDBOX (cutbox-rows.mjs): the forced cells as the released guide's own fill.sh prints them over the translation 23bbc52d05a8549d… (all of the seat's roots in one cut). By AI agents, Wed Nov 11 2026. No macro, syntax, notation, axiom, sorry.
-/
import Derived.Test.YtpcocbgicckcgaaChecked
import GoSem.Claim
import GoSem.ClaimJoined
import GoSem.ClaimMapViews
import Derived.JoinedTies
import Derived.KernelRfl
namespace Go.Proofs.Ytpcocbgicckcgaa
/- THE CELL 'sum', in the pinned program and in every row, IS THE sha256 OF THE DUMP (.gsa) THAT YtpcocbgicckcgaaProg.lean LOADS. Nothing in Lean hashes anything: it is a label: what it is worth is what the hold of that sum in a sandbox is worth. -/
noncomputable def Try.pinned : Pinned := { name := "ytpcocbgicckcgaa", sum := "23bbc52d05a8549db5ad5ec6ac9aa4ab85bf90e40ba2f33eb2cc1f9949b58f96", checked := Try.checked }
namespace Rows
def none {H : Type} : Left H := { results := [], args := [] }

/-- 'umpirelaw01.DigitsPuts': WHATEVER THE INPUT: true; the input reads as it did. -/
def digitsPutsSpec : ChangeSpec := { name := "digitsPuts", fn := fun _ => fun
  | [d1, d2] => { results := [.lit (.bool true)], args := [d1, d2] }
  | _ => none }
def digitsPutsRow : OpenClaim := { program := "ytpcocbgicckcgaa", sum := "23bbc52d05a8549db5ad5ec6ac9aa4ab85bf90e40ba2f33eb2cc1f9949b58f96", func := "umpire/umpirelaw01.DigitsPuts", spec := "digitsPuts", apart := false }
def DigitsPutsSaid : Prop := digitsPutsRow.holds Try.pinned (OpenSpec.ofChange digitsPutsSpec)

/-- ITS FALSE NEIGHBOUR: 'it returns false'. Refute it at one input. -/
def digitsPutsWrong : ChangeSpec := { name := "digitsPuts", fn := fun _ => fun
  | [d1, d2] => { results := [.lit (.bool false)], args := [d1, d2] }
  | _ => none }
def DigitsPutsWrongFalsely : Prop := digitsPutsRow.holds Try.pinned (OpenSpec.ofChange digitsPutsWrong)

/-- 'umpirelaw01.DigitsReads': WHATEVER THE INPUT: true; the input reads as it did. -/
def digitsReadsSpec : ChangeSpec := { name := "digitsReads", fn := fun _ => fun
  | [d] => { results := [.lit (.bool true)], args := [d] }
  | _ => none }
def digitsReadsRow : OpenClaim := { program := "ytpcocbgicckcgaa", sum := "23bbc52d05a8549db5ad5ec6ac9aa4ab85bf90e40ba2f33eb2cc1f9949b58f96", func := "umpire/umpirelaw01.DigitsReads", spec := "digitsReads", apart := false }
def DigitsReadsSaid : Prop := digitsReadsRow.holds Try.pinned (OpenSpec.ofChange digitsReadsSpec)

/-- ITS FALSE NEIGHBOUR: 'it returns false'. Refute it at one input. -/
def digitsReadsWrong : ChangeSpec := { name := "digitsReads", fn := fun _ => fun
  | [d] => { results := [.lit (.bool false)], args := [d] }
  | _ => none }
def DigitsReadsWrongFalsely : Prop := digitsReadsRow.holds Try.pinned (OpenSpec.ofChange digitsReadsWrong)

/-- 'umpirelaw01.DigitsBack': WHATEVER THE INPUT: true; the input reads as it did. -/
def digitsBackSpec : ChangeSpec := { name := "digitsBack", fn := fun _ => fun
  | [d1, d2, d3, d4] => { results := [.lit (.bool true)], args := [d1, d2, d3, d4] }
  | _ => none }
def digitsBackRow : OpenClaim := { program := "ytpcocbgicckcgaa", sum := "23bbc52d05a8549db5ad5ec6ac9aa4ab85bf90e40ba2f33eb2cc1f9949b58f96", func := "umpire/umpirelaw01.DigitsBack", spec := "digitsBack", apart := false }
def DigitsBackSaid : Prop := digitsBackRow.holds Try.pinned (OpenSpec.ofChange digitsBackSpec)

/-- ITS FALSE NEIGHBOUR: 'it returns false'. Refute it at one input. -/
def digitsBackWrong : ChangeSpec := { name := "digitsBack", fn := fun _ => fun
  | [d1, d2, d3, d4] => { results := [.lit (.bool false)], args := [d1, d2, d3, d4] }
  | _ => none }
def DigitsBackWrongFalsely : Prop := digitsBackRow.holds Try.pinned (OpenSpec.ofChange digitsBackWrong)

/-- 'umpirelaw01.DigitsAhead': WHATEVER THE INPUT: true; the input reads as it did. -/
def digitsAheadSpec : ChangeSpec := { name := "digitsAhead", fn := fun _ => fun
  | [d1, d2] => { results := [.lit (.bool true)], args := [d1, d2] }
  | _ => none }
def digitsAheadRow : OpenClaim := { program := "ytpcocbgicckcgaa", sum := "23bbc52d05a8549db5ad5ec6ac9aa4ab85bf90e40ba2f33eb2cc1f9949b58f96", func := "umpire/umpirelaw01.DigitsAhead", spec := "digitsAhead", apart := false }
def DigitsAheadSaid : Prop := digitsAheadRow.holds Try.pinned (OpenSpec.ofChange digitsAheadSpec)

/-- ITS FALSE NEIGHBOUR: 'it returns false'. Refute it at one input. -/
def digitsAheadWrong : ChangeSpec := { name := "digitsAhead", fn := fun _ => fun
  | [d1, d2] => { results := [.lit (.bool false)], args := [d1, d2] }
  | _ => none }
def DigitsAheadWrongFalsely : Prop := digitsAheadRow.holds Try.pinned (OpenSpec.ofChange digitsAheadWrong)

/-- 'umpirelaw01.DigitsWords': WHATEVER THE INPUT: true; the input reads as it did. -/
def digitsWordsSpec : ChangeSpec := { name := "digitsWords", fn := fun _ => fun
  | [d] => { results := [.lit (.bool true)], args := [d] }
  | _ => none }
def digitsWordsRow : OpenClaim := { program := "ytpcocbgicckcgaa", sum := "23bbc52d05a8549db5ad5ec6ac9aa4ab85bf90e40ba2f33eb2cc1f9949b58f96", func := "umpire/umpirelaw01.DigitsWords", spec := "digitsWords", apart := false }
def DigitsWordsSaid : Prop := digitsWordsRow.holds Try.pinned (OpenSpec.ofChange digitsWordsSpec)

/-- ITS FALSE NEIGHBOUR: 'it returns false'. Refute it at one input. -/
def digitsWordsWrong : ChangeSpec := { name := "digitsWords", fn := fun _ => fun
  | [d] => { results := [.lit (.bool false)], args := [d] }
  | _ => none }
def DigitsWordsWrongFalsely : Prop := digitsWordsRow.holds Try.pinned (OpenSpec.ofChange digitsWordsWrong)

/-- 'umpirelaw01.DigitsJoin': WHATEVER THE INPUT: true; the input reads as it did. -/
def digitsJoinSpec : ChangeSpec := { name := "digitsJoin", fn := fun _ => fun
  | [d1, d2] => { results := [.lit (.bool true)], args := [d1, d2] }
  | _ => none }
def digitsJoinRow : OpenClaim := { program := "ytpcocbgicckcgaa", sum := "23bbc52d05a8549db5ad5ec6ac9aa4ab85bf90e40ba2f33eb2cc1f9949b58f96", func := "umpire/umpirelaw01.DigitsJoin", spec := "digitsJoin", apart := false }
def DigitsJoinSaid : Prop := digitsJoinRow.holds Try.pinned (OpenSpec.ofChange digitsJoinSpec)

/-- ITS FALSE NEIGHBOUR: 'it returns false'. Refute it at one input. -/
def digitsJoinWrong : ChangeSpec := { name := "digitsJoin", fn := fun _ => fun
  | [d1, d2] => { results := [.lit (.bool false)], args := [d1, d2] }
  | _ => none }
def DigitsJoinWrongFalsely : Prop := digitsJoinRow.holds Try.pinned (OpenSpec.ofChange digitsJoinWrong)

/- THE SECOND FORM. 'bulk': how many values and letters a reading holds, each counted each time it is reached (what is shared counts as often as it is met; a slice's spare places count too). A statement '..UptoSaid' is the law's where the arguments, and the package variables that the reading takes, are together of bulk at most 1048576: NARROWER than '..Said'. Prove '..Said' where nothing that the law and all that it calls make is longer than what came in: it says more and counts as full. Else prove '..UptoSaid'. A law counts once. -/
mutual
def uptoBulk {H : Type} : DataW H → Nat
  | .lit (.string bytes) => bytes.length + 1
  | .lit _ => 1
  | .nil => 1
  | .ptr d => uptoBulk d + 1
  | .slice elems spare => uptoBulkAll elems + uptoBulkAll spare + 1
  | .agg parts => uptoBulkAll parts + 1
  | .iface _ d => uptoBulk d + 1
  | .map entries => uptoBulkEntries entries + 1
  | .held _ => 1
def uptoBulkAll {H : Type} : List (DataW H) → Nat
  | [] => 0
  | d :: r => uptoBulk d + uptoBulkAll r
def uptoBulkEntries {H : Type} : List (Lit × DataW H) → Nat
  | [] => 0
  | x :: r => uptoBulkEntry x + uptoBulkEntries r
def uptoBulkEntry {H : Type} : Lit × DataW H → Nat
  | (.string bytes, d) => bytes.length + uptoBulk d + 1
  | (_, d) => uptoBulk d + 1
 end
def uptoSmall : (H : Type) → List (DataW H) → Bool := fun _ ds => decide (uptoBulkAll ds ≤ 1048576)
def OpenSpec.upto (s : _root_.Go.ChangeSpec) : _root_.Go.OpenSpec := { _root_.Go.OpenSpec.ofChange s with cond := some uptoSmall }

/-- 'umpirelaw01.DigitsPuts', WHERE WHAT IT READS IS OF BULK AT MOST 1048576: true; the input reads as it did. -/
def digitsPutsUptoRow : OpenClaim := { program := "ytpcocbgicckcgaa", sum := "23bbc52d05a8549db5ad5ec6ac9aa4ab85bf90e40ba2f33eb2cc1f9949b58f96", func := "umpire/umpirelaw01.DigitsPuts", spec := "digitsPuts", apart := false, narrowed := true }
def DigitsPutsUptoSaid : Prop := digitsPutsUptoRow.holds Try.pinned (OpenSpec.upto digitsPutsSpec)

/-- 'umpirelaw01.DigitsReads', WHERE WHAT IT READS IS OF BULK AT MOST 1048576: true; the input reads as it did. -/
def digitsReadsUptoRow : OpenClaim := { program := "ytpcocbgicckcgaa", sum := "23bbc52d05a8549db5ad5ec6ac9aa4ab85bf90e40ba2f33eb2cc1f9949b58f96", func := "umpire/umpirelaw01.DigitsReads", spec := "digitsReads", apart := false, narrowed := true }
def DigitsReadsUptoSaid : Prop := digitsReadsUptoRow.holds Try.pinned (OpenSpec.upto digitsReadsSpec)

/-- 'umpirelaw01.DigitsBack', WHERE WHAT IT READS IS OF BULK AT MOST 1048576: true; the input reads as it did. -/
def digitsBackUptoRow : OpenClaim := { program := "ytpcocbgicckcgaa", sum := "23bbc52d05a8549db5ad5ec6ac9aa4ab85bf90e40ba2f33eb2cc1f9949b58f96", func := "umpire/umpirelaw01.DigitsBack", spec := "digitsBack", apart := false, narrowed := true }
def DigitsBackUptoSaid : Prop := digitsBackUptoRow.holds Try.pinned (OpenSpec.upto digitsBackSpec)

/-- 'umpirelaw01.DigitsAhead', WHERE WHAT IT READS IS OF BULK AT MOST 1048576: true; the input reads as it did. -/
def digitsAheadUptoRow : OpenClaim := { program := "ytpcocbgicckcgaa", sum := "23bbc52d05a8549db5ad5ec6ac9aa4ab85bf90e40ba2f33eb2cc1f9949b58f96", func := "umpire/umpirelaw01.DigitsAhead", spec := "digitsAhead", apart := false, narrowed := true }
def DigitsAheadUptoSaid : Prop := digitsAheadUptoRow.holds Try.pinned (OpenSpec.upto digitsAheadSpec)

/-- 'umpirelaw01.DigitsWords', WHERE WHAT IT READS IS OF BULK AT MOST 1048576: true; the input reads as it did. -/
def digitsWordsUptoRow : OpenClaim := { program := "ytpcocbgicckcgaa", sum := "23bbc52d05a8549db5ad5ec6ac9aa4ab85bf90e40ba2f33eb2cc1f9949b58f96", func := "umpire/umpirelaw01.DigitsWords", spec := "digitsWords", apart := false, narrowed := true }
def DigitsWordsUptoSaid : Prop := digitsWordsUptoRow.holds Try.pinned (OpenSpec.upto digitsWordsSpec)

/-- 'umpirelaw01.DigitsJoin', WHERE WHAT IT READS IS OF BULK AT MOST 1048576: true; the input reads as it did. -/
def digitsJoinUptoRow : OpenClaim := { program := "ytpcocbgicckcgaa", sum := "23bbc52d05a8549db5ad5ec6ac9aa4ab85bf90e40ba2f33eb2cc1f9949b58f96", func := "umpire/umpirelaw01.DigitsJoin", spec := "digitsJoin", apart := false, narrowed := true }
def DigitsJoinUptoSaid : Prop := digitsJoinUptoRow.holds Try.pinned (OpenSpec.upto digitsJoinSpec)

end Rows
end Go.Proofs.Ytpcocbgicckcgaa
