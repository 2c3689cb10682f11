/- YticdhmcbooabaaaDoorT: the table's cells, as data; what the two Look's answer. No claim. -/
import Derived.Test.YticdhmcbooabaaaDoorB
set_option linter.unusedVariables false
set_option linter.unusedSimpArgs false
set_option maxRecDepth 100000
namespace Go.Proofs.YticdhmcbooabaaaDoor
open Go Go.Proofs.YticdhmcbooabaaaDoor.V
def rowsT : List (List (Option (Nat × List Nat))) := [
  [none, some (2, []), none, some (1, [3]), some (0, []), none, none, none, none, none, none, none, none, none, none, none, none, none],
  [none, some (6, [5, 7]), none, some (1, []), some (0, [4]), none, none, none, none, none, none, none, none, none, none, none, none, none],
  [none, none, some (0, []), some (6, [5, 7]), some (2, []), none, none, some (2, [11]), some (2, [11]), some (2, [11]), some (2, [11]), some (2, [11]), some (2, []), some (2, [12]), some (2, []), some (2, [4]), some (2, []), none],
  [none, none, some (1, [3]), some (3, []), some (2, []), none, none, some (8, [5, 7, 8]), some (6, [5, 7, 9]), some (3, [11]), some (3, [11]), some (3, [11]), some (3, []), some (3, [12]), some (3, []), some (3, [4]), some (3, []), none],
  [none, none, some (0, []), some (5, []), some (4, []), some (4, [10]), some (2, [4]), some (4, []), some (4, []), some (4, []), some (4, []), some (4, [11]), some (2, [4]), some (4, [12]), some (4, []), some (2, [4]), some (4, []), none],
  [none, none, some (1, []), some (5, []), some (4, []), some (5, [10]), some (3, [4]), some (5, []), some (5, []), some (5, []), some (5, []), some (5, [11]), some (3, [4]), some (5, [12]), some (5, []), some (3, [4]), some (5, []), none],
  [none, none, some (1, []), some (6, []), some (4, [5, 10]), some (6, [7]), some (3, [4]), some (8, [8]), some (6, [9]), some (7, [5]), some (6, [5, 7]), some (6, [11]), some (6, []), some (6, [12]), some (6, []), some (3, [4]), some (6, []), none],
  [none, none, some (1, []), some (7, []), some (4, [5, 10]), some (6, [7]), some (3, [4]), some (9, [8, 1]), some (7, [9]), some (6, [7]), some (6, [7]), some (6, [11]), some (6, []), some (7, [12]), some (6, []), some (3, [4]), some (7, []), none],
  [none, none, some (1, []), some (8, []), some (4, [5, 10]), some (8, [7]), some (3, [4]), some (8, [8]), some (6, [9]), some (9, [5, 1]), some (8, [5, 7]), some (6, [11]), some (8, []), some (8, [12]), some (8, []), some (3, [4]), some (8, []), none],
  [none, none, some (1, [2]), some (9, []), some (4, [2, 5, 10]), none, none, some (8, [2, 7, 8]), some (6, [2, 7, 9]), some (6, [2, 7]), some (6, [2, 7]), some (5, [2, 6, 11]), some (6, [2, 7]), some (9, [12]), some (9, []), some (5, [2, 5, 10]), some (9, [13]), none]]
def cellT (s e : Nat) : Option (Nat × List Nat) := ((rowsT[s]?).getD [])[e]?.getD none
def cellI (s e : Int) : Option (Nat × List Nat) := if 0 ≤ s ∧ s ≤ 9 ∧ 1 ≤ e ∧ e ≤ 16 then cellT s.toNat e.toNat else none
def intsOf (l : List Nat) : List PV := l.map fun (n : Nat) => .int .i64 n
def lookR : Option (Nat × List Nat) → SV
  | some (n, l) => .tuple [.pure false (.int .i64 n), .pure false (.sl (intsOf l)), .pure true (.bool true)]
  | none => .tuple [.pure true (.int .i64 0), .pure true (.sl []), .pure true (.bool false)]
def rlookR : Option (Nat × List Nat) → SV
  | some (n, l) => .tuple [.pure true (.int .i64 n), .row 0 l.length, .pure true (.bool true)]
  | none => .tuple [.pure true (.int .i64 0), .row 0 0, .pure true (.bool false)]
def zOf (l : List Nat) : Nat := if l.isEmpty then 0 else 1
def rlookS : Option (Nat × List Nat) → Store
  | some (n, l) => [(0, .row true (zOf l) 0 (intsOf l))]
  | none => [(0, .row true 0 0 [])]
theorem ints_at {l : List Nat} {i : Nat} (h : i < l.length) : (intsOf l)[i]? = some (.int .i64 (l[i] : Nat)) := by simp [intsOf, h]
theorem intsOf_length (l : List Nat) : (intsOf l).length = l.length := by simp [intsOf]
end Go.Proofs.YticdhmcbooabaaaDoor
