/- YticdhmcbooabaaaDoorE: what is told of the program beside its text. No claim. -/
import Derived.Test.YticdhmcbooabaaaDoor28
import Derived.Test.YticdhmcbooabaaaDoorRows
set_option linter.unusedVariables false
set_option linter.unusedSimpArgs false
set_option maxRecDepth 100000
namespace Go.Proofs.YticdhmcbooabaaaDoor
open Go Go.Proofs.YticdhmcbooabaaaDoor.V
def annT : List (Nat × Nat × List Nat) := [(5, 10, [2, 7, 8, 9, 11, 12]), (5, 14, [2, 7, 8, 11, 13]), (9, 9, [3, 6, 9, 10, 14, 15]), (9, 14, [3, 6, 9, 10, 16, 17, 18]), (10, 9, [2, 7, 8, 9, 10]), (10, 15, [2, 7, 8, 9, 10, 12, 14]), (14, 4, [1, 2, 4, 7, 8, 9]), (15, 4, [0, 1, 5]), (16, 4, [0, 1, 5]), (18, 4, [2, 5, 6, 8, 9]), (18, 7, [2, 5, 6, 8, 9, 10]), (19, 3, [1, 3, 10, 11]), (19, 7, [1, 3, 5, 6, 7, 10, 11]), (19, 10, [1, 3, 5, 6, 7, 8, 10, 11]), (20, 3, [1, 3, 4]), (20, 8, [1, 3, 4, 5, 6, 7]), (20, 11, [1, 3, 4, 5, 6, 7, 8]), (20, 20, [1, 3, 4, 5, 6, 7, 8, 9, 12, 13]), (20, 26, [1, 3, 4, 6, 14]), (20, 29, [1, 3, 4, 6, 14, 15]), (24, 2, [0, 3, 5]), (25, 4, [2, 3, 5, 6, 7]), (25, 8, [2, 3, 5, 6, 7, 8, 9]), (25, 11, [2, 3, 5, 6, 7, 8, 9, 10]), (25, 16, [2, 3, 5, 6, 7, 8, 9, 10, 11, 12]), (25, 24, [2, 3, 5, 6, 7, 8, 9, 10, 11, 12, 13, 16, 17]), (27, 4, [1, 3, 4, 10, 11, 12]), (28, 4, [2, 4, 7, 8, 13, 14, 15]), (29, 15, [3, 6, 10, 11, 14, 15, 16]), (30, 5, [0, 1, 5, 6]), (31, 4, [5, 13, 14, 15]), (31, 7, [5, 8, 9, 13, 14, 15]), (33, 14, [0, 4, 10, 13, 14, 15]), (36, 4, [1, 2, 5, 6, 7]), (36, 7, [1, 2, 5, 6, 7, 8]), (39, 2, [0, 1, 5]), (42, 2, [0, 3]), (43, 2, [0, 1, 7, 8]), (44, 2, [0, 1, 7, 8]), (48, 6, [3, 6, 10, 12, 13]), (49, 2, [0, 1, 5]), (50, 5, [0, 2, 3]), (50, 11, [0, 2, 3, 4, 5]), (51, 1, [0, 2, 3]), (52, 2, [0, 3, 7, 8]), (53, 6, [3, 4, 6, 10, 45, 46, 47]), (55, 8, [7, 8, 9]), (55, 11, [7, 8, 9, 10])]
def regT : List (Nat × Nat × List (List Nat)) := [(3, 6, [[], [], [0, 1], [0, 1, 2], [0, 1, 2, 3], [0, 1, 2, 3], [0, 1, 2, 3, 4, 5], [0, 1, 2, 3, 4, 5, 6], [0, 1, 2, 3, 4, 5, 6, 7], [0, 1, 2, 3, 4, 5, 6, 7, 8], [0, 1, 2, 3, 4, 5, 6, 7, 8], [0, 1, 2, 3, 4, 5, 6, 7, 8, 9, 10], [0, 1, 2, 3, 4, 5, 6, 7, 8], [0, 1, 2, 3, 4, 5, 6, 7, 8], [0, 1, 2, 3, 4, 5, 6, 7, 8, 9, 10, 11, 12, 13], [0, 1, 2, 3, 4, 5, 6, 7, 8, 9, 10, 11, 12, 13, 14], [0, 1, 2, 3, 4, 5, 6, 7, 8, 9, 10, 11, 12, 13, 14, 15], [0, 1, 2, 3, 4, 5, 6, 7, 8, 9, 10, 11, 12, 13, 14, 15, 16]]), (4, 4, [[], [0], [], [0, 1, 2], [0, 1, 2, 3], [0, 1, 2, 3, 4]]), (5, 19, [[], [], [0, 1], [0, 1, 2], [0, 1, 2, 3], [0, 1, 2, 3], [0, 1, 2, 3, 4, 5], [0, 1, 2, 3], [0, 1, 2, 3], [0, 1, 2, 3, 4, 5, 6, 7, 8], [0, 1, 2, 3, 4, 5, 6, 7, 8, 9], [0, 1, 2, 3, 4, 5, 6, 7, 8, 9, 10], [0, 1, 2, 3, 4, 5, 6, 7, 8, 9, 10, 11]]), (6, 5, [[], [0], [], [0, 1, 2], [0, 1, 2, 3]]), (7, 7, [[], [], [], [2], [2, 3], [1, 2, 3, 4], [0, 1, 2, 3, 4, 5], [0, 1, 2, 3, 4, 5, 6], [0, 1, 2, 3, 4, 5, 6, 7], [0, 1, 2, 3, 4, 5, 6, 7], [0, 1, 2, 3, 4, 5, 6, 7], [], [0, 1, 2, 3, 4, 5, 6, 7, 8, 11], [0, 1, 2, 3, 4, 5, 6, 7, 8, 9, 11, 12], [0, 1, 2, 3, 4, 5, 6, 7, 8, 9, 10, 11, 12, 13]]), (7, 11, [[], [], [], [], [2, 3], [1, 2, 3, 4], [], [], [7], [6, 7, 8], [1, 2, 3, 4, 5, 6, 7, 8, 9], [0, 1, 2, 3, 4, 5, 6, 7, 8, 9, 10], [0, 1, 2, 3, 4, 5, 6, 7, 8, 9, 10, 11], [0, 1, 2, 3, 4, 5, 6, 7, 8, 9, 10, 11, 12], [0, 1, 2, 3, 4, 5, 6, 7, 8, 9, 10, 11, 12], [0, 1, 2, 3, 4, 5, 6, 7, 8, 9, 10, 11, 12], [], [0, 1, 2, 3, 4, 5, 6, 7, 8, 9, 10, 11, 12, 13, 16], [0, 1, 2, 3, 4, 5, 6, 7, 8, 9, 10, 11, 12, 13, 14, 16, 17], [0, 1, 2, 3, 4, 5, 6, 7, 8, 9, 10, 11, 12, 13, 14, 15, 16, 17, 18]]), (10, 11, [[], [], [], [1, 2], [1, 2, 3], [0, 1, 2, 3, 4], [0, 1, 2, 3, 4, 5], [0, 1, 2, 3, 4, 5, 6], [0, 1, 2, 3, 4, 5, 6], [0, 1, 2, 3, 4, 5, 6], [], [0, 1, 2, 3, 4, 5, 6, 7, 10], [0, 1, 2, 3, 4, 5, 6, 7, 8, 10, 11], [0, 1, 2, 3, 4, 5, 6, 7, 8, 9, 10, 11, 12]]), (10, 20, [[], [], [], [1, 2], [1, 2, 3], [0, 1, 2, 3, 4], [0, 1, 2, 3, 4, 5], [0, 1, 2, 3, 4, 5, 6], [0, 1, 2, 3, 4, 5, 6], [0, 1, 2, 3, 4, 5, 6, 7], [0, 1, 2, 3, 4, 5, 6, 7, 8, 9]]), (14, 6, [[], [], [], [], [2, 3], [2, 3, 4], [0, 1, 2, 3, 4, 5], [0, 1, 2, 3, 4, 5, 6], [0, 1, 2, 3, 4, 5, 6, 7], [0, 1, 2, 3, 4, 5, 6, 7], [0, 1, 2, 3, 4, 5, 6, 7], [], [0, 1, 2, 3, 4, 5, 6, 7, 8, 11], [0, 1, 2, 3, 4, 5, 6, 7, 8, 9, 11, 12], [0, 1, 2, 3, 4, 5, 6, 7, 8, 9, 10, 11, 12, 13]]), (15, 6, [[], [], [0, 1], [0, 1, 2], [], [], [4, 5], [4, 5, 6], [0, 1, 2, 3, 4, 5, 6, 7]]), (16, 6, [[], [], [0, 1], [0, 1, 2], [], [], [4, 5], [4, 5, 6], [0, 1, 2, 3, 4, 5, 6, 7]]), (20, 14, [[], [], [], [1, 2], [1, 2, 3], [], [], [0, 1, 2, 3, 4, 5, 6], [0, 1, 2, 3, 4, 5, 6, 7], [0, 1, 2, 3, 4, 5, 6, 7, 8], [0, 1, 2, 3, 4, 5, 6, 7, 8], [0, 1, 2, 3, 4, 5, 6, 7, 8], [], [], [0, 1, 2, 3, 4, 5, 6, 7, 8, 9, 12, 13], [0, 1, 2, 3, 4, 5, 6, 7, 8, 9, 10, 12, 13, 14], [0, 1, 2, 3, 4, 5, 6, 7, 8, 9, 10, 11, 12, 13, 14, 15]]), (20, 22, [[], [0], [0, 1], [0, 1], [0, 1, 2, 3], [0, 1, 2, 3, 4], [0, 1], [0, 1, 2, 3, 4, 5, 6], [0, 1, 2, 3, 4, 5, 6, 7], [0, 1, 2, 3, 4, 5, 6, 7, 8]]), (23, 2, [[], [0], [0, 1], [0, 1, 2], [], [0, 1, 2, 3, 4], [0, 1, 2, 3, 4, 5], [0, 1, 2, 3, 4, 5, 6], [0, 1, 2, 3, 4, 5, 6], [0, 1, 2, 3, 4, 5, 6, 7], [0, 1, 2, 3, 4, 5, 6, 7, 8, 9]]), (24, 4, [[], [], [0, 1], [0, 1, 2], [], [0, 1, 2, 3, 4]]), (25, 18, [[], [], [], [1, 2], [1, 2, 3], [], [], [5, 6], [0, 1, 2, 3, 4, 5, 6, 7], [0, 1, 2, 3, 4, 5, 6, 7, 8], [0, 1, 2, 3, 4, 5, 6, 7, 8, 9], [0, 1, 2, 3, 4, 5, 6, 7, 8, 9], [0, 1, 2, 3, 4, 5, 6, 7, 8, 9], [], [0, 1, 2, 3, 4, 5, 6, 7, 8, 9, 10, 13], [0, 1, 2, 3, 4, 5, 6, 7, 8, 9, 10, 11, 13, 14], [0, 1, 2, 3, 4, 5, 6, 7, 8, 9, 10, 11, 12, 13, 14, 15]]), (25, 26, [[], [], [0, 1], [0, 1, 2], [], [0, 1, 2, 3, 4], [0, 1, 2, 3, 4, 5]]), (26, 3, [[], [], [0, 1], [], [0, 1, 2, 3]]), (27, 7, [[], [], [1], [], [], [4], [3, 4, 5], [0, 1, 2, 3, 4, 5, 6]]), (27, 9, [[], [], [], [], [3], [3, 4], [3, 4, 5], [], [3, 4, 5, 6, 7], [2, 3, 4, 5, 6, 7, 8], [1, 2, 3, 4, 5, 6, 7, 8, 9], [1, 2, 3, 4, 5, 6, 7, 8, 9, 10], [0, 1, 2, 3, 4, 5, 6, 7, 8, 9, 10, 11], [0, 1, 2, 3, 4, 5, 6, 7, 8, 9, 10, 11, 12]]), (33, 2, [[], [], [1], [0, 1, 2], [0, 1, 2, 3]]), (37, 1, [[], [], [], [1, 2], [1, 2, 3], [], [0, 1, 2, 3, 4, 5], [0, 1, 2, 3, 4, 5, 6], [0, 1, 2, 3, 4, 5, 6, 7], [0, 1, 2, 3, 4, 5, 6, 7], [0, 1, 2, 3, 4, 5, 6, 7], [], [0, 1, 2, 3, 4, 5, 6, 7, 8, 11], [0, 1, 2, 3, 4, 5, 6, 7, 8, 9, 11, 12], [0, 1, 2, 3, 4, 5, 6, 7, 8, 9, 10, 11, 12, 13]]), (37, 4, [[], [0], [], [], [2, 3], [2, 3, 4], [2, 3, 4, 5], [], [0, 1, 2, 3, 4, 5, 6, 7], [], [0, 1, 2, 3, 4, 5, 6, 7, 8, 9]]), (37, 8, [[], [], [0], [0, 1, 2], [0, 1, 2, 3]]), (47, 1, [[], [], [0, 1], [], [], [3], [3, 5], [3, 4, 5, 6], [3, 4, 5, 6, 7], [3, 4, 5, 6, 7, 8], [], [0, 1, 2, 3, 4, 5, 6, 7, 8, 9, 10], [], [0, 1, 2, 3, 4, 5, 6, 7, 8, 9, 10, 11, 12]]), (47, 2, [[], [], [], [1], [1, 3], [1, 2, 3, 4], [1, 2, 3, 4, 5], [], [0, 1, 2, 3, 4, 5, 6, 7], [0, 1, 2, 3, 4, 5, 6, 7, 8], [0, 1, 2, 3, 4, 5, 6, 7, 8, 9], [0, 1, 2, 3, 4, 5, 6, 7, 8, 9], [0, 1, 2, 3, 4, 5, 6, 7, 8, 9], [], [0, 1, 2, 3, 4, 5, 6, 7, 8, 9, 10, 13], [0, 1, 2, 3, 4, 5, 6, 7, 8, 9, 10, 11, 13, 14], [0, 1, 2, 3, 4, 5, 6, 7, 8, 9, 10, 11, 12, 13, 14, 15]]), (47, 5, [[], [], [], [0], [0, 3], [0, 1, 2, 3, 4], [0, 1, 2, 3, 4, 5]]), (47, 6, [[], [], [], [], [2], [2, 4], [2, 3, 4, 5], [2, 3, 4, 5, 6], [2, 3, 4, 5, 6, 7], [2, 3, 4, 5, 6, 7, 8], [2, 3, 4, 5, 6, 7, 8, 9], [2, 3, 4, 5, 6, 7, 8, 9, 10], [0], [0, 12], [0, 1, 2, 3, 4, 5, 6, 7, 8, 9, 10, 11, 12, 13], [0, 1, 2, 3, 4, 5, 6, 7, 8, 9, 10, 11, 12, 13, 14]]), (50, 22, [[], [], [], [2], [2, 3], [2, 3, 4], [], [2, 3, 4, 5, 6], [], [], [0, 1, 2, 3, 4, 5, 6, 7, 8, 9]]), (51, 3, [[], [], [], [], [], [], [4, 5], [4, 5, 6], [], [], [8, 9], [8, 9, 10], [0, 1, 4, 5, 6, 7, 8, 9, 10, 11], [0, 1, 4, 5, 6, 7, 8, 9, 10, 11, 12], [0, 1, 2, 3, 4, 5, 6, 7, 8, 9, 10, 11, 12, 13], [0, 1, 2, 3, 4, 5, 6, 7, 8, 9, 10, 11, 12, 13, 14]]), (52, 4, [[], [], [], [1, 2], [1, 2, 3], [0, 1, 2, 3, 4]]), (55, 13, [[], [0], [], [], [2, 3], [0, 1, 2, 3, 4]]), (56, 3, [[], [], [], [0], [0, 1, 3], [0, 1, 2, 3, 4]]), (57, 2, [[], [0], [0, 1], [0, 1, 2], [], [0, 1, 2, 3, 4], [0, 1, 2, 3, 4, 5]]), (57, 3, [[], [0], [0, 1], [0, 1, 2], [], [0, 1, 2, 3, 4]]), (57, 5, [[], [], [1], [1, 2], [1, 2, 3], [], [], [], [5, 6, 7], [5, 6, 7, 8], [1, 2, 3, 4, 5, 6, 7, 8, 9], [0, 1, 2, 3, 4, 5, 6, 7, 8, 9, 10], [0, 1, 2, 3, 4, 5, 6, 7, 8, 9, 10, 11], [0, 1, 2, 3, 4, 5, 6, 7, 8, 9, 10, 11, 12]]), (57, 6, [[], [0], [0, 1], [0, 1, 2], [], [0, 1, 2, 3, 4], [0, 1, 2, 3, 4, 5], [0, 1, 2, 3, 4, 5, 6], [0, 1, 2, 3, 4, 5, 6], [0, 1, 2, 3, 4, 5, 6, 7], [0, 1, 2, 3, 4, 5, 6, 7, 8, 9]]), (57, 10, [[], [], [1], [1, 2], [1, 2, 3], [], [], [], [5, 6, 7], [5, 6, 7, 8], [1, 2, 3, 4, 5, 6, 7, 8, 9], [0, 1, 2, 3, 4, 5, 6, 7, 8, 9, 10], [0, 1, 2, 3, 4, 5, 6, 7, 8, 9, 10, 11], [0, 1, 2, 3, 4, 5, 6, 7, 8, 9, 10, 11, 12]]), (57, 11, [[], [0], [0, 1], [0, 1, 2], [], [], [0, 1, 2, 3, 4, 5]]), (58, 6, [[], [0], [0, 1], [0, 1, 2], [], [4], [4, 5], [0, 1, 2, 3, 4, 5, 6], [], [0, 1, 2, 3, 4, 5, 6, 7, 8]]), (58, 11, [[], [], [0], [0, 1, 2], [0, 1, 2, 3]]), (59, 1, [[], [0], [0, 1], [0, 1, 2], [], [4], [4, 5], [], [0, 1, 2, 3, 4, 5, 6, 7], [], [0, 1, 2, 3, 4, 5, 6, 7, 8, 9]]), (59, 5, [[], [], [0], [0, 1, 2], [0, 1, 2, 3]]), (60, 2, [[], [0], [], [2], [], [0, 1], [0, 1, 2, 3, 5], [0, 1, 2, 3, 4, 5, 6]]), (61, 1, [[], [0], [0, 1], [0, 1, 2], [], [4], [4, 5], [], [0, 1, 2, 3, 4, 5, 6, 7], [0, 1, 2, 3, 4, 5, 6, 7, 8], [0, 1, 2, 3, 4, 5, 6, 7, 8, 9], [0, 1, 2, 3, 4, 5, 6, 7, 8, 9], [0, 1, 2, 3, 4, 5, 6, 7, 8, 9], [], [0, 1, 2, 3, 4, 5, 6, 7, 8, 9, 10, 13], [0, 1, 2, 3, 4, 5, 6, 7, 8, 9, 10, 11, 13, 14], [0, 1, 2, 3, 4, 5, 6, 7, 8, 9, 10, 11, 12, 13, 14, 15]])]
def lk2 {α : Type} (d : α) : List (Nat × Nat × α) → Nat → Nat → α
  | [], _, _ => d
  | (f, r, a) :: l, f', r' => match f.beq f' && r.beq r' with
    | true => a
    | false => lk2 d l f' r'
def lk1 {α : Type} : List (Nat × α) → Nat → Option α
  | [], _ => none
  | (f, a) :: l, f' => match f.beq f' with
    | true => some a
    | false => lk1 l f'
def eqT : List (Nat × List Kc) := [(32, [.int .i64, .int .i64]), (36, [.int .i64, .int .i64, .int .i64, .int .i64, .int .i64, .int .i64, .bool, .bool, .bool]), (46, [.int .i64, .int .i64, .int .i64]), (48, [.int .i64, .int .i64]), (61, [.int .i64, .int .i64, .int .i64, .int .i64, .int .i64, .int .i64, .bool, .bool, .bool]), (102, [.int .i64, .int .i64, .int .i64, .int .i64, .bool, .bool])]
def intrT : List (Nat × (List SV → (Nat → Option Ob) → Nat → Option Eff)) := [(40, cloneW 2 16)]
/-- What the variable rows holds: its strings, by bytes. -/
def rowsB : List (List (List UInt8)) := [[], [[50], [54, 105, 114], [45], [45], [45], [45], [45], [45], [45], [45]], [[45], [45], [48], [49, 115], [48], [49], [49], [49], [49], [49, 100]], [[49, 115], [49], [54, 105, 114], [51], [53], [53], [54], [55], [56], [57]], [[48], [48, 102], [50], [50], [52], [52], [52, 105, 116], [52, 105, 116], [52, 105, 116], [52, 100, 105, 116]], [[45], [45], [45], [45], [52, 116], [53, 116], [54, 114], [54, 114], [56, 114], [45]], [[45], [45], [45], [45], [50, 102], [51, 102], [51, 102], [51, 102], [51, 102], [45]], [[45], [45], [50, 107], [56, 105, 114, 97], [52], [53], [56, 97], [57, 97, 117], [56, 97], [56, 100, 114, 97]], [[45], [45], [50, 107], [54, 105, 114, 110], [52], [53], [54, 110], [55, 110], [54, 110], [54, 100, 114, 110]], [[45], [45], [50, 107], [51, 107], [52], [53], [55, 105], [54, 114], [57, 105, 117], [54, 100, 114]], [[45], [45], [50, 107], [51, 107], [52], [53], [54, 105, 114], [54, 114], [56, 105, 114], [54, 100, 114]], [[45], [45], [50, 107], [51, 107], [52, 107], [53, 107], [54, 107], [54, 107], [54, 107], [53, 100, 122, 107]], [[45], [45], [50], [51], [50, 102], [51, 102], [54], [54], [56], [54, 100, 114]], [[45], [45], [50, 99], [51, 99], [52, 99], [53, 99], [54, 99], [55, 99], [56, 99], [57, 99]], [[45], [45], [50], [51], [52], [53], [54], [54], [56], [57]], [[45], [45], [50, 102], [51, 102], [50, 102], [51, 102], [51, 102], [51, 102], [51, 102], [53, 100, 105, 116]], [[45], [45], [50], [51], [52], [53], [54], [55], [56], [57, 101]]]
def env : Env where
  glob := fun g => if g = 0 then some [.sl (rowsB.map fun r => .sl (r.map .str))] else none
  ann := lk2 [] annT
  reg := lk2 [] regT
  eqT := lk1 eqT
  byRef g := [30, 43, 51].contains g
  intr := lk1 intrT
attribute [go_sem] Tryd.underlying0 Tryd.underlying1 Tryd.underlying2 Tryd.underlying3 Tryd.underlying4 Tryd.underlying5 Tryd.underlying6 Tryd.underlying7 Tryd.underlying8 Tryd.underlying9 Tryd.underlying10 Tryd.underlying11 Tryd.underlying12 Tryd.underlying13 Tryd.underlying14 Tryd.underlying15 Tryd.underlying16 Tryd.underlying17 Tryd.underlying18 Tryd.underlying19 Tryd.underlying20 Tryd.underlying21 Tryd.underlying22 Tryd.underlying23 Tryd.underlying24 Tryd.underlying25 Tryd.underlying26 Tryd.underlying27 Tryd.underlying28 Tryd.underlying29 Tryd.underlying30 Tryd.underlying31 Tryd.underlying32 Tryd.underlying33 Tryd.underlying34 Tryd.underlying35 Tryd.underlying36 Tryd.underlying37 Tryd.underlying38 Tryd.underlying39 Tryd.underlying40 Tryd.underlying41 Tryd.underlying42 Tryd.underlying43 Tryd.underlying44 Tryd.underlying45 Tryd.underlying46 Tryd.underlying47 Tryd.underlying48 Tryd.underlying49 Tryd.underlying50 Tryd.underlying51 Tryd.underlying52 Tryd.underlying53 Tryd.underlying54 Tryd.underlying55 Tryd.underlying56 Tryd.underlying57 Tryd.underlying58 Tryd.underlying59 Tryd.underlying60 Tryd.underlying61 Tryd.underlying62 Tryd.underlying63 Tryd.underlying64 Tryd.underlying65 Tryd.underlying66 Tryd.underlying67 Tryd.underlying68 Tryd.underlying69 Tryd.underlying70 Tryd.underlying71 Tryd.underlying72 Tryd.underlying73 Tryd.underlying74 Tryd.underlying75 Tryd.underlying76 Tryd.underlying77 Tryd.underlying78 Tryd.underlying79 Tryd.underlying80 Tryd.underlying81 Tryd.underlying82 Tryd.underlying83 Tryd.underlying84 Tryd.underlying85 Tryd.underlying86 Tryd.underlying87 Tryd.underlying88 Tryd.underlying89 Tryd.underlying90 Tryd.underlying91 Tryd.underlying92 Tryd.underlying93 Tryd.underlying94 Tryd.underlying95 Tryd.underlying96 Tryd.underlying97 Tryd.underlying98 Tryd.underlying99 Tryd.underlying100 Tryd.underlying101 Tryd.underlying102 Tryd.underlying103 Tryd.underlying104 Tryd.underlying105 Tryd.underlying106 Tryd.underlying107 Tryd.underlying108 Tryd.underlying109 Tryd.underlying110 Tryd.underlying111 Tryd.underlying112 Tryd.underlying113 Tryd.underlying114 Tryd.underlying115 Tryd.underlying116 Tryd.underlying117 Tryd.underlying118 Tryd.underlying119 Tryd.underlying120 Tryd.underlying121 Tryd.underlying122 Tryd.underlying123 Tryd.underlying124 Tryd.underlying125 Tryd.underlying126 Tryd.underlying127 Tryd.underlying128 Tryd.underlying129 Tryd.underlying130 Tryd.underlying131 Tryd.underlying132 Tryd.underlying133 Tryd.underlying134 Tryd.underlying135 Tryd.underlying136 Tryd.underlying137 Tryd.underlying138 Tryd.underlying139
theorem cells0 : Tryd.prog.cellsOf 0 = 1 := by kernel_rfl
theorem bytes0 : Tryd.prog.bytesOf 0 = 0 := by kernel_rfl
theorem agg0 : isAggT Tryd.prog 0 = false := by kernel_rfl
theorem ok0 : okT Tryd.prog 0 = true := by kernel_rfl
theorem zero1 : zeroE Tryd.prog 1 = some (.opq .nilFunc) := by kernel_rfl
theorem zeros1 : zerosOf Tryd.prog 1 = some [.opq .nilFunc] := by kernel_rfl
theorem cells1 : Tryd.prog.cellsOf 1 = 1 := by kernel_rfl
theorem bytes1 : Tryd.prog.bytesOf 1 = 8 := by kernel_rfl
theorem agg1 : isAggT Tryd.prog 1 = false := by kernel_rfl
theorem ok1 : okT Tryd.prog 1 = true := by kernel_rfl
theorem zero2 : zeroE Tryd.prog 2 = some (.int .i64 0) := by kernel_rfl
theorem zeros2 : zerosOf Tryd.prog 2 = some [.int .i64 0] := by kernel_rfl
theorem cells2 : Tryd.prog.cellsOf 2 = 1 := by kernel_rfl
theorem bytes2 : Tryd.prog.bytesOf 2 = 8 := by kernel_rfl
theorem agg2 : isAggT Tryd.prog 2 = false := by kernel_rfl
theorem ok2 : okT Tryd.prog 2 = true := by kernel_rfl
theorem zero3 : zeroE Tryd.prog 3 = some (.int .i64 0) := by kernel_rfl
theorem zeros3 : zerosOf Tryd.prog 3 = some [.int .i64 0] := by kernel_rfl
theorem cells3 : Tryd.prog.cellsOf 3 = 1 := by kernel_rfl
theorem bytes3 : Tryd.prog.bytesOf 3 = 8 := by kernel_rfl
theorem agg3 : isAggT Tryd.prog 3 = false := by kernel_rfl
theorem ok3 : okT Tryd.prog 3 = true := by kernel_rfl
theorem zero4 : zeroE Tryd.prog 4 = some (.bool false) := by kernel_rfl
theorem zeros4 : zerosOf Tryd.prog 4 = some [.bool false] := by kernel_rfl
theorem cells4 : Tryd.prog.cellsOf 4 = 1 := by kernel_rfl
theorem bytes4 : Tryd.prog.bytesOf 4 = 1 := by kernel_rfl
theorem agg4 : isAggT Tryd.prog 4 = false := by kernel_rfl
theorem ok4 : okT Tryd.prog 4 = true := by kernel_rfl
theorem zero5 : zeroE Tryd.prog 5 = some (.int .u8 0) := by kernel_rfl
theorem zeros5 : zerosOf Tryd.prog 5 = some [.int .u8 0] := by kernel_rfl
theorem cells5 : Tryd.prog.cellsOf 5 = 1 := by kernel_rfl
theorem bytes5 : Tryd.prog.bytesOf 5 = 1 := by kernel_rfl
theorem agg5 : isAggT Tryd.prog 5 = false := by kernel_rfl
theorem ok5 : okT Tryd.prog 5 = true := by kernel_rfl
theorem zero9 : zeroE Tryd.prog 9 = some (.str []) := by kernel_rfl
theorem zeros9 : zerosOf Tryd.prog 9 = some [.str []] := by kernel_rfl
theorem cells9 : Tryd.prog.cellsOf 9 = 1 := by kernel_rfl
theorem bytes9 : Tryd.prog.bytesOf 9 = 16 := by kernel_rfl
theorem agg9 : isAggT Tryd.prog 9 = false := by kernel_rfl
theorem ok9 : okT Tryd.prog 9 = true := by kernel_rfl
theorem zero22 : zeroE Tryd.prog 22 = some (.sl []) := by kernel_rfl
theorem zeros22 : zerosOf Tryd.prog 22 = some [.sl []] := by kernel_rfl
theorem cells22 : Tryd.prog.cellsOf 22 = 1 := by kernel_rfl
theorem bytes22 : Tryd.prog.bytesOf 22 = 24 := by kernel_rfl
theorem agg22 : isAggT Tryd.prog 22 = false := by kernel_rfl
theorem ok22 : okT Tryd.prog 22 = true := by kernel_rfl
theorem zero26 : zeroE Tryd.prog 26 = some (.agg [.int .i64 0, .int .i64 0, .int .i64 0, .int .i64 0, .str [], .str [], .int .i64 0, .int .u32 0, .bool false]) := by kernel_rfl
theorem zeros26 : zerosOf Tryd.prog 26 = some [.int .i64 0, .int .i64 0, .int .i64 0, .int .i64 0, .str [], .str [], .int .i64 0, .int .u32 0, .bool false] := by kernel_rfl
theorem cells26 : Tryd.prog.cellsOf 26 = 9 := by kernel_rfl
theorem bytes26 : Tryd.prog.bytesOf 26 = 80 := by kernel_rfl
theorem agg26 : isAggT Tryd.prog 26 = true := by kernel_rfl
theorem ok26 : okT Tryd.prog 26 = true := by kernel_rfl
theorem zero28 : zeroE Tryd.prog 28 = some (.sl []) := by kernel_rfl
theorem zeros28 : zerosOf Tryd.prog 28 = some [.sl []] := by kernel_rfl
theorem cells28 : Tryd.prog.cellsOf 28 = 1 := by kernel_rfl
theorem bytes28 : Tryd.prog.bytesOf 28 = 24 := by kernel_rfl
theorem agg28 : isAggT Tryd.prog 28 = false := by kernel_rfl
theorem ok28 : okT Tryd.prog 28 = true := by kernel_rfl
theorem zero32 : zeroE Tryd.prog 32 = some (.agg [.int .i64 0, .int .i64 0]) := by kernel_rfl
theorem zeros32 : zerosOf Tryd.prog 32 = some [.int .i64 0, .int .i64 0] := by kernel_rfl
theorem cells32 : Tryd.prog.cellsOf 32 = 2 := by kernel_rfl
theorem bytes32 : Tryd.prog.bytesOf 32 = 16 := by kernel_rfl
theorem agg32 : isAggT Tryd.prog 32 = true := by kernel_rfl
theorem ok32 : okT Tryd.prog 32 = true := by kernel_rfl
theorem zero33 : zeroE Tryd.prog 33 = some (.agg [.int .i64 0, .int .i64 0, .int .i64 0, .int .i64 0, .int .i64 0, .int .i64 0]) := by kernel_rfl
theorem zeros33 : zerosOf Tryd.prog 33 = some [.int .i64 0, .int .i64 0, .int .i64 0, .int .i64 0, .int .i64 0, .int .i64 0] := by kernel_rfl
theorem cells33 : Tryd.prog.cellsOf 33 = 6 := by kernel_rfl
theorem bytes33 : Tryd.prog.bytesOf 33 = 48 := by kernel_rfl
theorem agg33 : isAggT Tryd.prog 33 = true := by kernel_rfl
theorem ok33 : okT Tryd.prog 33 = true := by kernel_rfl
theorem zero34 : zeroE Tryd.prog 34 = some (.agg [.bool false, .bool false, .bool false]) := by kernel_rfl
theorem zeros34 : zerosOf Tryd.prog 34 = some [.bool false, .bool false, .bool false] := by kernel_rfl
theorem cells34 : Tryd.prog.cellsOf 34 = 3 := by kernel_rfl
theorem bytes34 : Tryd.prog.bytesOf 34 = 3 := by kernel_rfl
theorem agg34 : isAggT Tryd.prog 34 = true := by kernel_rfl
theorem ok34 : okT Tryd.prog 34 = true := by kernel_rfl
theorem zero36 : zeroE Tryd.prog 36 = some (.agg [.int .i64 0, .int .i64 0, .int .i64 0, .int .i64 0, .int .i64 0, .int .i64 0, .bool false, .bool false, .bool false]) := by kernel_rfl
theorem zeros36 : zerosOf Tryd.prog 36 = some [.int .i64 0, .int .i64 0, .int .i64 0, .int .i64 0, .int .i64 0, .int .i64 0, .bool false, .bool false, .bool false] := by kernel_rfl
theorem cells36 : Tryd.prog.cellsOf 36 = 9 := by kernel_rfl
theorem bytes36 : Tryd.prog.bytesOf 36 = 56 := by kernel_rfl
theorem agg36 : isAggT Tryd.prog 36 = true := by kernel_rfl
theorem ok36 : okT Tryd.prog 36 = true := by kernel_rfl
theorem zero46 : zeroE Tryd.prog 46 = some (.agg [.int .i64 0, .int .i64 0, .int .i64 0]) := by kernel_rfl
theorem zeros46 : zerosOf Tryd.prog 46 = some [.int .i64 0, .int .i64 0, .int .i64 0] := by kernel_rfl
theorem cells46 : Tryd.prog.cellsOf 46 = 3 := by kernel_rfl
theorem bytes46 : Tryd.prog.bytesOf 46 = 24 := by kernel_rfl
theorem agg46 : isAggT Tryd.prog 46 = true := by kernel_rfl
theorem ok46 : okT Tryd.prog 46 = true := by kernel_rfl
theorem zero48 : zeroE Tryd.prog 48 = some (.agg [.int .i64 0, .int .i64 0]) := by kernel_rfl
theorem zeros48 : zerosOf Tryd.prog 48 = some [.int .i64 0, .int .i64 0] := by kernel_rfl
theorem cells48 : Tryd.prog.cellsOf 48 = 2 := by kernel_rfl
theorem bytes48 : Tryd.prog.bytesOf 48 = 16 := by kernel_rfl
theorem agg48 : isAggT Tryd.prog 48 = true := by kernel_rfl
theorem ok48 : okT Tryd.prog 48 = true := by kernel_rfl
theorem zero61 : zeroE Tryd.prog 61 = some (.agg [.int .i64 0, .int .i64 0, .int .i64 0, .int .i64 0, .int .i64 0, .int .i64 0, .bool false, .bool false, .bool false]) := by kernel_rfl
theorem zeros61 : zerosOf Tryd.prog 61 = some [.int .i64 0, .int .i64 0, .int .i64 0, .int .i64 0, .int .i64 0, .int .i64 0, .bool false, .bool false, .bool false] := by kernel_rfl
theorem cells61 : Tryd.prog.cellsOf 61 = 9 := by kernel_rfl
theorem bytes61 : Tryd.prog.bytesOf 61 = 56 := by kernel_rfl
theorem agg61 : isAggT Tryd.prog 61 = true := by kernel_rfl
theorem ok61 : okT Tryd.prog 61 = true := by kernel_rfl
theorem zero68 : zeroE Tryd.prog 68 = some (.opq .nilFunc) := by kernel_rfl
theorem zeros68 : zerosOf Tryd.prog 68 = some [.opq .nilFunc] := by kernel_rfl
theorem cells68 : Tryd.prog.cellsOf 68 = 1 := by kernel_rfl
theorem bytes68 : Tryd.prog.bytesOf 68 = 8 := by kernel_rfl
theorem agg68 : isAggT Tryd.prog 68 = false := by kernel_rfl
theorem ok68 : okT Tryd.prog 68 = true := by kernel_rfl
theorem zero70 : zeroE Tryd.prog 70 = some (.agg [.int .i64 0, .int .i64 0, .int .i64 0]) := by kernel_rfl
theorem zeros70 : zerosOf Tryd.prog 70 = some [.int .i64 0, .int .i64 0, .int .i64 0] := by kernel_rfl
theorem cells70 : Tryd.prog.cellsOf 70 = 3 := by kernel_rfl
theorem bytes70 : Tryd.prog.bytesOf 70 = 24 := by kernel_rfl
theorem agg70 : isAggT Tryd.prog 70 = true := by kernel_rfl
theorem ok70 : okT Tryd.prog 70 = true := by kernel_rfl
theorem zero72 : zeroE Tryd.prog 72 = some (.opq (.map none)) := by kernel_rfl
theorem zeros72 : zerosOf Tryd.prog 72 = some [.opq (.map none)] := by kernel_rfl
theorem cells72 : Tryd.prog.cellsOf 72 = 1 := by kernel_rfl
theorem bytes72 : Tryd.prog.bytesOf 72 = 8 := by kernel_rfl
theorem agg72 : isAggT Tryd.prog 72 = false := by kernel_rfl
theorem ok72 : okT Tryd.prog 72 = true := by kernel_rfl
theorem zero90 : zeroE Tryd.prog 90 = some (.sl []) := by kernel_rfl
theorem zeros90 : zerosOf Tryd.prog 90 = some [.sl []] := by kernel_rfl
theorem cells90 : Tryd.prog.cellsOf 90 = 1 := by kernel_rfl
theorem bytes90 : Tryd.prog.bytesOf 90 = 24 := by kernel_rfl
theorem agg90 : isAggT Tryd.prog 90 = false := by kernel_rfl
theorem ok90 : okT Tryd.prog 90 = true := by kernel_rfl
theorem zero91 : zeroE Tryd.prog 91 = some (.opq (.pointer none)) := by kernel_rfl
theorem zeros91 : zerosOf Tryd.prog 91 = some [.opq (.pointer none)] := by kernel_rfl
theorem cells91 : Tryd.prog.cellsOf 91 = 1 := by kernel_rfl
theorem bytes91 : Tryd.prog.bytesOf 91 = 8 := by kernel_rfl
theorem agg91 : isAggT Tryd.prog 91 = false := by kernel_rfl
theorem ok91 : okT Tryd.prog 91 = true := by kernel_rfl
theorem zero96 : zeroE Tryd.prog 96 = some (.opq (.map none)) := by kernel_rfl
theorem zeros96 : zerosOf Tryd.prog 96 = some [.opq (.map none)] := by kernel_rfl
theorem cells96 : Tryd.prog.cellsOf 96 = 1 := by kernel_rfl
theorem bytes96 : Tryd.prog.bytesOf 96 = 8 := by kernel_rfl
theorem agg96 : isAggT Tryd.prog 96 = false := by kernel_rfl
theorem ok96 : okT Tryd.prog 96 = true := by kernel_rfl
theorem zero97 : zeroE Tryd.prog 97 = some (.sl []) := by kernel_rfl
theorem zeros97 : zerosOf Tryd.prog 97 = some [.sl []] := by kernel_rfl
theorem cells97 : Tryd.prog.cellsOf 97 = 1 := by kernel_rfl
theorem bytes97 : Tryd.prog.bytesOf 97 = 24 := by kernel_rfl
theorem agg97 : isAggT Tryd.prog 97 = false := by kernel_rfl
theorem ok97 : okT Tryd.prog 97 = true := by kernel_rfl
theorem zero112 : zeroE Tryd.prog 112 = some (.sl []) := by kernel_rfl
theorem zeros112 : zerosOf Tryd.prog 112 = some [.sl []] := by kernel_rfl
theorem cells112 : Tryd.prog.cellsOf 112 = 1 := by kernel_rfl
theorem bytes112 : Tryd.prog.bytesOf 112 = 24 := by kernel_rfl
theorem agg112 : isAggT Tryd.prog 112 = false := by kernel_rfl
theorem ok112 : okT Tryd.prog 112 = true := by kernel_rfl
theorem zero113 : zeroE Tryd.prog 113 = some (.sl []) := by kernel_rfl
theorem zeros113 : zerosOf Tryd.prog 113 = some [.sl []] := by kernel_rfl
theorem cells113 : Tryd.prog.cellsOf 113 = 1 := by kernel_rfl
theorem bytes113 : Tryd.prog.bytesOf 113 = 24 := by kernel_rfl
theorem agg113 : isAggT Tryd.prog 113 = false := by kernel_rfl
theorem ok113 : okT Tryd.prog 113 = true := by kernel_rfl
theorem zero118 : zeroE Tryd.prog 118 = some (.agg [.int .i64 0, .sl []]) := by kernel_rfl
theorem zeros118 : zerosOf Tryd.prog 118 = some [.int .i64 0, .sl []] := by kernel_rfl
theorem cells118 : Tryd.prog.cellsOf 118 = 2 := by kernel_rfl
theorem bytes118 : Tryd.prog.bytesOf 118 = 32 := by kernel_rfl
theorem agg118 : isAggT Tryd.prog 118 = true := by kernel_rfl
theorem ok118 : okT Tryd.prog 118 = true := by kernel_rfl
theorem place26 : placeV Tryd.prog 26 = some (fun i => ([(0, 1), (1, 1), (2, 1), (3, 1), (4, 1), (5, 1), (6, 1), (7, 1), (8, 1)] : List (Nat × Nat))[i]?) := placeV_of Tryd.underlying26 (by kernel_rfl) (by kernel_rfl)
theorem place32 : placeV Tryd.prog 32 = some (fun i => ([(0, 1), (1, 1)] : List (Nat × Nat))[i]?) := placeV_of Tryd.underlying32 (by kernel_rfl) (by kernel_rfl)
theorem place36 : placeV Tryd.prog 36 = some (fun i => ([(0, 6), (6, 3)] : List (Nat × Nat))[i]?) := placeV_of Tryd.underlying36 (by kernel_rfl) (by kernel_rfl)
theorem place46 : placeV Tryd.prog 46 = some (fun i => ([(0, 1), (1, 1), (2, 1)] : List (Nat × Nat))[i]?) := placeV_of Tryd.underlying46 (by kernel_rfl) (by kernel_rfl)
theorem place48 : placeV Tryd.prog 48 = some (fun i => ([(0, 1), (1, 1)] : List (Nat × Nat))[i]?) := placeV_of Tryd.underlying48 (by kernel_rfl) (by kernel_rfl)
theorem place61 : placeV Tryd.prog 61 = some (fun i => ([(0, 6), (6, 3)] : List (Nat × Nat))[i]?) := placeV_of Tryd.underlying61 (by kernel_rfl) (by kernel_rfl)
theorem place84 : placeV Tryd.prog 84 = some (fun i => ([(0, 9), (9, 1), (10, 1), (11, 1), (12, 1)] : List (Nat × Nat))[i]?) := placeV_of Tryd.underlying84 (by kernel_rfl) (by kernel_rfl)
theorem place102 : placeV Tryd.prog 102 = some (fun i => ([(0, 2), (2, 2), (4, 1), (5, 1)] : List (Nat × Nat))[i]?) := placeV_of Tryd.underlying102 (by kernel_rfl) (by kernel_rfl)
theorem place104 : placeV Tryd.prog 104 = some (fun i => ([(0, 6), (6, 1), (7, 2)] : List (Nat × Nat))[i]?) := placeV_of Tryd.underlying104 (by kernel_rfl) (by kernel_rfl)
theorem place118 : placeV Tryd.prog 118 = some (fun i => ([(0, 1), (1, 1)] : List (Nat × Nat))[i]?) := placeV_of Tryd.underlying118 (by kernel_rfl) (by kernel_rfl)
theorem place70 : placeV Tryd.prog 70 = some (fun i => some (i * 1, 1)) := placeV_arr Tryd.underlying70 cells3 (by decide)
attribute [go_sem] cells0 bytes0 agg0 ok0 zero1 zeros1 cells1 bytes1 agg1 ok1 zero2 zeros2 cells2 bytes2 agg2 ok2 zero3 zeros3 cells3 bytes3 agg3 ok3 zero4 zeros4 cells4 bytes4 agg4 ok4 zero5 zeros5 cells5 bytes5 agg5 ok5 zero9 zeros9 cells9 bytes9 agg9 ok9 zero22 zeros22 cells22 bytes22 agg22 ok22 zero26 zeros26 cells26 bytes26 agg26 ok26 zero28 zeros28 cells28 bytes28 agg28 ok28 zero32 zeros32 cells32 bytes32 agg32 ok32 zero33 zeros33 cells33 bytes33 agg33 ok33 zero34 zeros34 cells34 bytes34 agg34 ok34 zero36 zeros36 cells36 bytes36 agg36 ok36 zero46 zeros46 cells46 bytes46 agg46 ok46 zero48 zeros48 cells48 bytes48 agg48 ok48 zero61 zeros61 cells61 bytes61 agg61 ok61 zero68 zeros68 cells68 bytes68 agg68 ok68 zero70 zeros70 cells70 bytes70 agg70 ok70 zero72 zeros72 cells72 bytes72 agg72 ok72 zero90 zeros90 cells90 bytes90 agg90 ok90 zero91 zeros91 cells91 bytes91 agg91 ok91 zero96 zeros96 cells96 bytes96 agg96 ok96 zero97 zeros97 cells97 bytes97 agg97 ok97 zero112 zeros112 cells112 bytes112 agg112 ok112 zero113 zeros113 cells113 bytes113 agg113 ok113 zero118 zeros118 cells118 bytes118 agg118 ok118 place26 place32 place36 place46 place48 place61 place84 place102 place104 place118 place70
theorem eqT32 : env.eqT 32 = some [.int .i64, .int .i64] := rfl
theorem eqT36 : env.eqT 36 = some [.int .i64, .int .i64, .int .i64, .int .i64, .int .i64, .int .i64, .bool, .bool, .bool] := rfl
theorem eqT46 : env.eqT 46 = some [.int .i64, .int .i64, .int .i64] := rfl
theorem eqT48 : env.eqT 48 = some [.int .i64, .int .i64] := rfl
theorem eqT61 : env.eqT 61 = some [.int .i64, .int .i64, .int .i64, .int .i64, .int .i64, .int .i64, .bool, .bool, .bool] := rfl
theorem eqT102 : env.eqT 102 = some [.int .i64, .int .i64, .int .i64, .int .i64, .bool, .bool] := rfl
attribute [go_sem] eqT32 eqT36 eqT46 eqT48 eqT61 eqT102
theorem eqOk32 : EqOk Tryd.prog 32 [.int .i64, .int .i64] := eqOk_of (by kernel_rfl) (by kernel_rfl) (by kernel_rfl) (by kernel_rfl)
theorem eqOk36 : EqOk Tryd.prog 36 [.int .i64, .int .i64, .int .i64, .int .i64, .int .i64, .int .i64, .bool, .bool, .bool] := eqOk_of (by kernel_rfl) (by kernel_rfl) (by kernel_rfl) (by kernel_rfl)
theorem eqOk46 : EqOk Tryd.prog 46 [.int .i64, .int .i64, .int .i64] := eqOk_of (by kernel_rfl) (by kernel_rfl) (by kernel_rfl) (by kernel_rfl)
theorem eqOk48 : EqOk Tryd.prog 48 [.int .i64, .int .i64] := eqOk_of (by kernel_rfl) (by kernel_rfl) (by kernel_rfl) (by kernel_rfl)
theorem eqOk61 : EqOk Tryd.prog 61 [.int .i64, .int .i64, .int .i64, .int .i64, .int .i64, .int .i64, .bool, .bool, .bool] := eqOk_of (by kernel_rfl) (by kernel_rfl) (by kernel_rfl) (by kernel_rfl)
theorem eqOk102 : EqOk Tryd.prog 102 [.int .i64, .int .i64, .int .i64, .int .i64, .bool, .bool] := eqOk_of (by kernel_rfl) (by kernel_rfl) (by kernel_rfl) (by kernel_rfl)
theorem envEq : EnvEq Tryd.prog env := ⟨fun t ks h => lk_all (lk := lk1) (p := fun t ks => EqOk Tryd.prog t ks) (fun _ => rfl) (fun _ _ _ _ => rfl) eqT (by intro q hq; simp only [eqT, List.mem_cons, List.not_mem_nil, or_false] at hq; rcases hq with rfl | rfl | rfl | rfl | rfl | rfl <;> first | exact eqOk32 | exact eqOk36 | exact eqOk46 | exact eqOk48 | exact eqOk61 | exact eqOk102) t ks h⟩
theorem intr40 : IntrOk Tryd.prog 40 (cloneW 2 16) := intr_clone (P := Tryd.prog) Tryd.func40 (t := 22) (bt := 4) (e := 48) rfl rfl rfl Tryd.underlying22 cells48 bytes48 (by decide) (by decide) (by kernel_rfl) (by decide)
theorem envOk : EnvOk Tryd.prog env := ⟨envEq, fun g hh h => lk_all (lk := lk1) (p := IntrOk Tryd.prog) (fun _ => rfl) (fun _ _ _ _ => rfl) intrT (by intro q hq; simp only [intrT, List.mem_cons, List.not_mem_nil, or_false] at hq; rcases hq with rfl <;> first | exact intr40) g hh h⟩
theorem envLoc : ∀ g hh, env.intr g = some hh → ∀ args nk, Local fun S => hh args S nk := fun g hh h => lk_all (lk := lk1) (p := fun g hh => ∀ args nk, Local fun S => hh args S nk) (fun _ => rfl) (fun _ _ _ _ => rfl) intrT (by intro q hq; simp only [intrT, List.mem_cons, List.not_mem_nil, or_false] at hq; rcases hq with rfl <;> exact cloneW_local _ _) g hh h
theorem allFuncs {p : Nat → Func → Bool} (h : ((List.range Tryd.prog.funcs.size).all fun g => match Tryd.prog.funcs[g]? with | some fn => p g fn | none => true) = true) (g : Nat) (fn : Func) (hf : Tryd.prog.funcs[g]? = some fn) : p g fn = true := by
  have h1 := List.all_eq_true.1 h g (List.mem_range.2 (Array.getElem?_eq_some_iff.1 hf).1)
  rw [hf] at h1
  exact h1
theorem envCode : ∀ (g : Nat) fn c, Tryd.prog.funcs[g]? = some fn → fn.body = some c → codeOk (env.reg g) c = true := by
  intro g fn c hf hb
  have := allFuncs (p := fun g fn => match fn.body with | some c => codeOk (env.reg g) c | none => true) (by kernel_rfl) g fn hf
  rw [hb] at this
  exact this
theorem envName : ∀ (g : Nat) fn, Tryd.prog.funcs[g]? = some fn → fn.name ≠ "runtime.NumGoroutine" := by
  intro g fn hf
  have := allFuncs (p := fun g fn => decide (fn.name ≠ "runtime.NumGoroutine")) (by kernel_rfl) g fn hf
  simpa using this
attribute [go_sem_proc] Nat.reduceMul Nat.reduceAdd Nat.reduceLT Nat.reduceLeDiff Nat.reducePow Nat.reduceEqDiff reduceCtorEq Int.reduceToNat
attribute [go_sem_proc ↓] reduceIte
theorem envAll : EnvAll Tryd.prog env := ⟨envOk, envLoc, by kernel_rfl, envCode, envName⟩
theorem own : ownKnob Tryd.prog.godebug = none := by kernel_rfl
theorem laidOut : laidOutB Tryd.prog = true := by kernel_rfl
end Go.Proofs.YticdhmcbooabaaaDoor
