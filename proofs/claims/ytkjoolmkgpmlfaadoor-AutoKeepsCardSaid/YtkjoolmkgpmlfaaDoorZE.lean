/- YtkjoolmkgpmlfaaDoorZE: what is told of the program beside its text. No claim. -/
import Derived.Test.YtkjoolmkgpmlfaaDoorZ28
import Derived.Test.YtkjoolmkgpmlfaaDoorRows
set_option linter.unusedVariables false
set_option linter.unusedSimpArgs false
set_option maxRecDepth 100000
namespace Go.Proofs.YtkjoolmkgpmlfaaDoorZ
open Go Go.Proofs.YtkjoolmkgpmlfaaDoorZ.V
def annT : List (Nat × Nat × List Nat) := [(4, 7, [0, 7, 8, 9, 10]), (5, 6, [1, 2, 5, 7, 9]), (9, 6, [3, 4, 6, 10, 45, 46, 47]), (10, 6, [3, 6, 10, 12, 13]), (11, 4, [0, 1, 5]), (18, 8, [7, 8, 9]), (18, 11, [7, 8, 9, 10]), (20, 2, [0, 1, 7, 8])]
def regT : List (Nat × Nat × List (List Nat)) := [(3, 6, [[], [], [0, 1], [0, 1, 2], [0, 1, 2, 3], [0, 1, 2, 3], [0, 1, 2, 3, 4, 5], [0, 1, 2, 3, 4, 5, 6], [0, 1, 2, 3, 4, 5, 6, 7], [0, 1, 2, 3, 4, 5, 6, 7, 8], [0, 1, 2, 3, 4, 5, 6, 7, 8], [0, 1, 2, 3, 4, 5, 6, 7, 8, 9, 10], [0, 1, 2, 3, 4, 5, 6, 7, 8, 9, 10, 11], [0, 1, 2, 3, 4, 5, 6, 7, 8, 9, 10, 11, 12], [0, 1, 2, 3, 4, 5, 6, 7, 8, 9, 10, 11, 12, 13], [0, 1, 2, 3, 4, 5, 6, 7, 8, 9, 10, 11, 12, 13, 14], [0, 1, 2, 3, 4, 5, 6, 7, 8, 9, 10, 11, 12, 13], [0, 1, 2, 3, 4, 5, 6, 7, 8, 9, 10, 11, 12, 13, 14, 15, 16], [0, 1, 2, 3, 4, 5, 6, 7, 8, 9, 10, 11, 12, 13, 14, 15, 16, 17], [0, 1, 2, 3, 4, 5, 6, 7, 8, 9, 10, 11, 12, 13, 14, 15, 16, 17, 18], [0, 1, 2, 3, 4, 5, 6, 7, 8, 9, 10, 11, 12, 13, 14, 15, 16, 17, 18, 19]]), (4, 9, [[], [], [], [], [2, 3], [2, 3, 4], [2, 3, 4, 5], [2, 3, 4, 5, 6], [0, 1, 2, 3, 4, 5, 6, 7], [0, 1, 2, 3, 4, 5, 6, 7, 8], [0, 1, 2, 3, 4, 5, 6, 7, 8, 9], [0, 1, 2, 3, 4, 5, 6, 7, 8, 9], [0, 1, 2, 3, 4, 5, 6, 7, 8, 9], [], [0, 1, 2, 3, 4, 5, 6, 7, 8, 9, 10, 13], [0, 1, 2, 3, 4, 5, 6, 7, 8, 9, 10, 11, 13, 14], [0, 1, 2, 3, 4, 5, 6, 7, 8, 9, 10, 11, 12, 13, 14, 15]]), (4, 10, [[], [], [], [], [2, 3], [2, 3, 4], [2, 3, 4, 5], [2, 3, 4, 5, 6], [0, 1, 2, 3, 4, 5, 6, 7], [0, 1, 2, 3, 4, 5, 6, 7, 8], [0, 1, 2, 3, 4, 5, 6, 7, 8, 9], [0, 1, 2, 3, 4, 5, 6, 7, 8, 9], [0, 1, 2, 3, 4, 5, 6, 7, 8, 9], [], [0, 1, 2, 3, 4, 5, 6, 7, 8, 9, 10, 13], [0, 1, 2, 3, 4, 5, 6, 7, 8, 9, 10, 11, 13, 14], [0, 1, 2, 3, 4, 5, 6, 7, 8, 9, 10, 11, 12, 13, 14, 15]]), (11, 6, [[], [], [0, 1], [0, 1, 2], [], [], [4, 5], [4, 5, 6], [0, 1, 2, 3, 4, 5, 6, 7]]), (16, 2, [[], [0], [], [2], [], [0, 1], [0, 1, 2, 3, 5], [0, 1, 2, 3, 4, 5, 6]]), (18, 13, [[], [0], [], [], [2, 3], [0, 1, 2, 3, 4]])]
def lk2 {α : Type} (d : α) : List (Nat × Nat × α) → Nat → Nat → α
  | [], _, _ => d
  | (f, r, a) :: l, f', r' => match f.beq f' && r.beq r' with
    | true => a
    | false => lk2 d l f' r'
def lk1 {α : Type} : List (Nat × α) → Nat → Option α
  | [], _ => none
  | (f, a) :: l, f' => match f.beq f' with
    | true => some a
    | false => lk1 l f'
def eqT : List (Nat × List Kc) := [(23, [.int .i64, .int .i64])]
/-- What the variable rows holds: its strings, by bytes. -/
def rowsB : List (List (List UInt8)) := [[], [[50], [54, 105, 114], [45], [45], [45], [45], [45], [45], [45], [45]], [[45], [45], [48], [49, 115], [48], [49], [49], [49], [49], [49, 100]], [[49, 115], [49], [54, 105, 114], [51], [53], [53], [54], [55], [56], [57]], [[48], [48, 102], [50], [50], [52], [52], [52, 105, 116], [52, 105, 116], [52, 105, 116], [52, 100, 105, 116]], [[45], [45], [45], [45], [52, 116], [53, 116], [54, 114], [54, 114], [56, 114], [45]], [[45], [45], [45], [45], [50, 102], [51, 102], [51, 102], [51, 102], [51, 102], [45]], [[45], [45], [50, 107], [56, 105, 114, 97], [52], [53], [56, 97], [57, 97, 117], [56, 97], [56, 100, 114, 97]], [[45], [45], [50, 107], [54, 105, 114, 110], [52], [53], [54, 110], [55, 110], [54, 110], [54, 100, 114, 110]], [[45], [45], [50, 107], [51, 107], [52], [53], [55, 105], [54, 114], [57, 105, 117], [54, 100, 114]], [[45], [45], [50, 107], [51, 107], [52], [53], [54, 105, 114], [54, 114], [56, 105, 114], [54, 100, 114]], [[45], [45], [50, 107], [51, 107], [52, 107], [53, 107], [54, 107], [54, 107], [54, 107], [53, 100, 122, 107]], [[45], [45], [50], [51], [50, 102], [51, 102], [54], [54], [56], [54, 100, 114]], [[45], [45], [50, 99], [51, 99], [52, 99], [53, 99], [54, 99], [55, 99], [56, 99], [57, 99]], [[45], [45], [50], [51], [52], [53], [54], [54], [56], [57]], [[45], [45], [50, 102], [51, 102], [50, 102], [51, 102], [51, 102], [51, 102], [51, 102], [53, 100, 105, 116]], [[45], [45], [50], [51], [52], [53], [54], [55], [56], [57, 101]]]
def env : Env where
  byRef := fun g => Nat.beq g 32
  glob := fun g => if g = 0 then some [.sl (rowsB.map fun r => .sl (r.map .str))] else none
  ann := lk2 [] annT
  reg := lk2 [] regT
  eqT := lk1 eqT
attribute [go_sem] Tryd.underlying0 Tryd.underlying1 Tryd.underlying2 Tryd.underlying3 Tryd.underlying4 Tryd.underlying5 Tryd.underlying6 Tryd.underlying7 Tryd.underlying8 Tryd.underlying9 Tryd.underlying10 Tryd.underlying11 Tryd.underlying12 Tryd.underlying13 Tryd.underlying14 Tryd.underlying15 Tryd.underlying16 Tryd.underlying17 Tryd.underlying18 Tryd.underlying19 Tryd.underlying20 Tryd.underlying21 Tryd.underlying22 Tryd.underlying23 Tryd.underlying24 Tryd.underlying25 Tryd.underlying26 Tryd.underlying27 Tryd.underlying28 Tryd.underlying29 Tryd.underlying30 Tryd.underlying31 Tryd.underlying32 Tryd.underlying33 Tryd.underlying34 Tryd.underlying35 Tryd.underlying36 Tryd.underlying37 Tryd.underlying38 Tryd.underlying39 Tryd.underlying40 Tryd.underlying41 Tryd.underlying42 Tryd.underlying43 Tryd.underlying44 Tryd.underlying45 Tryd.underlying46 Tryd.underlying47 Tryd.underlying48 Tryd.underlying49 Tryd.underlying50 Tryd.underlying51 Tryd.underlying52 Tryd.underlying53 Tryd.underlying54 Tryd.underlying55 Tryd.underlying56 Tryd.underlying57 Tryd.underlying58 Tryd.underlying59 Tryd.underlying60 Tryd.underlying61 Tryd.underlying62 Tryd.underlying63 Tryd.underlying64 Tryd.underlying65 Tryd.underlying66 Tryd.underlying67 Tryd.underlying68
theorem cells0 : Tryd.prog.cellsOf 0 = 1 := by kernel_rfl
theorem bytes0 : Tryd.prog.bytesOf 0 = 0 := by kernel_rfl
theorem agg0 : isAggT Tryd.prog 0 = false := by kernel_rfl
theorem ok0 : okT Tryd.prog 0 = true := by kernel_rfl
theorem zero1 : zeroE Tryd.prog 1 = some (.opq .nilFunc) := by kernel_rfl
theorem zeros1 : zerosOf Tryd.prog 1 = some [.opq .nilFunc] := by kernel_rfl
theorem cells1 : Tryd.prog.cellsOf 1 = 1 := by kernel_rfl
theorem bytes1 : Tryd.prog.bytesOf 1 = 8 := by kernel_rfl
theorem agg1 : isAggT Tryd.prog 1 = false := by kernel_rfl
theorem ok1 : okT Tryd.prog 1 = true := by kernel_rfl
theorem zero2 : zeroE Tryd.prog 2 = some (.int .i64 0) := by kernel_rfl
theorem zeros2 : zerosOf Tryd.prog 2 = some [.int .i64 0] := by kernel_rfl
theorem cells2 : Tryd.prog.cellsOf 2 = 1 := by kernel_rfl
theorem bytes2 : Tryd.prog.bytesOf 2 = 8 := by kernel_rfl
theorem agg2 : isAggT Tryd.prog 2 = false := by kernel_rfl
theorem ok2 : okT Tryd.prog 2 = true := by kernel_rfl
theorem zero3 : zeroE Tryd.prog 3 = some (.int .i64 0) := by kernel_rfl
theorem zeros3 : zerosOf Tryd.prog 3 = some [.int .i64 0] := by kernel_rfl
theorem cells3 : Tryd.prog.cellsOf 3 = 1 := by kernel_rfl
theorem bytes3 : Tryd.prog.bytesOf 3 = 8 := by kernel_rfl
theorem agg3 : isAggT Tryd.prog 3 = false := by kernel_rfl
theorem ok3 : okT Tryd.prog 3 = true := by kernel_rfl
theorem zero4 : zeroE Tryd.prog 4 = some (.bool false) := by kernel_rfl
theorem zeros4 : zerosOf Tryd.prog 4 = some [.bool false] := by kernel_rfl
theorem cells4 : Tryd.prog.cellsOf 4 = 1 := by kernel_rfl
theorem bytes4 : Tryd.prog.bytesOf 4 = 1 := by kernel_rfl
theorem agg4 : isAggT Tryd.prog 4 = false := by kernel_rfl
theorem ok4 : okT Tryd.prog 4 = true := by kernel_rfl
theorem zero5 : zeroE Tryd.prog 5 = some (.int .u8 0) := by kernel_rfl
theorem zeros5 : zerosOf Tryd.prog 5 = some [.int .u8 0] := by kernel_rfl
theorem cells5 : Tryd.prog.cellsOf 5 = 1 := by kernel_rfl
theorem bytes5 : Tryd.prog.bytesOf 5 = 1 := by kernel_rfl
theorem agg5 : isAggT Tryd.prog 5 = false := by kernel_rfl
theorem ok5 : okT Tryd.prog 5 = true := by kernel_rfl
theorem zero6 : zeroE Tryd.prog 6 = some (.int .u8 0) := by kernel_rfl
theorem zeros6 : zerosOf Tryd.prog 6 = some [.int .u8 0] := by kernel_rfl
theorem cells6 : Tryd.prog.cellsOf 6 = 1 := by kernel_rfl
theorem bytes6 : Tryd.prog.bytesOf 6 = 1 := by kernel_rfl
theorem agg6 : isAggT Tryd.prog 6 = false := by kernel_rfl
theorem ok6 : okT Tryd.prog 6 = true := by kernel_rfl
theorem zero7 : zeroE Tryd.prog 7 = some (.agg [.int .i64 0, .int .i64 0, .bool false, .int .u8 0]) := by kernel_rfl
theorem zeros7 : zerosOf Tryd.prog 7 = some [.int .i64 0, .int .i64 0, .bool false, .int .u8 0] := by kernel_rfl
theorem cells7 : Tryd.prog.cellsOf 7 = 4 := by kernel_rfl
theorem bytes7 : Tryd.prog.bytesOf 7 = 24 := by kernel_rfl
theorem agg7 : isAggT Tryd.prog 7 = true := by kernel_rfl
theorem ok7 : okT Tryd.prog 7 = true := by kernel_rfl
theorem zero8 : zeroE Tryd.prog 8 = some (.agg [.int .i64 0, .int .i64 0, .bool false, .int .u8 0]) := by kernel_rfl
theorem zeros8 : zerosOf Tryd.prog 8 = some [.int .i64 0, .int .i64 0, .bool false, .int .u8 0] := by kernel_rfl
theorem cells8 : Tryd.prog.cellsOf 8 = 4 := by kernel_rfl
theorem bytes8 : Tryd.prog.bytesOf 8 = 24 := by kernel_rfl
theorem agg8 : isAggT Tryd.prog 8 = true := by kernel_rfl
theorem ok8 : okT Tryd.prog 8 = true := by kernel_rfl
theorem zero9 : zeroE Tryd.prog 9 = some (.str []) := by kernel_rfl
theorem zeros9 : zerosOf Tryd.prog 9 = some [.str []] := by kernel_rfl
theorem cells9 : Tryd.prog.cellsOf 9 = 1 := by kernel_rfl
theorem bytes9 : Tryd.prog.bytesOf 9 = 16 := by kernel_rfl
theorem agg9 : isAggT Tryd.prog 9 = false := by kernel_rfl
theorem ok9 : okT Tryd.prog 9 = true := by kernel_rfl
theorem zero10 : zeroE Tryd.prog 10 = some (.str []) := by kernel_rfl
theorem zeros10 : zerosOf Tryd.prog 10 = some [.str []] := by kernel_rfl
theorem cells10 : Tryd.prog.cellsOf 10 = 1 := by kernel_rfl
theorem bytes10 : Tryd.prog.bytesOf 10 = 16 := by kernel_rfl
theorem agg10 : isAggT Tryd.prog 10 = false := by kernel_rfl
theorem ok10 : okT Tryd.prog 10 = true := by kernel_rfl
theorem zero11 : zeroE Tryd.prog 11 = some (.str []) := by kernel_rfl
theorem zeros11 : zerosOf Tryd.prog 11 = some [.str []] := by kernel_rfl
theorem cells11 : Tryd.prog.cellsOf 11 = 1 := by kernel_rfl
theorem bytes11 : Tryd.prog.bytesOf 11 = 16 := by kernel_rfl
theorem agg11 : isAggT Tryd.prog 11 = false := by kernel_rfl
theorem ok11 : okT Tryd.prog 11 = true := by kernel_rfl
theorem zero12 : zeroE Tryd.prog 12 = some (.int .u64 0) := by kernel_rfl
theorem zeros12 : zerosOf Tryd.prog 12 = some [.int .u64 0] := by kernel_rfl
theorem cells12 : Tryd.prog.cellsOf 12 = 1 := by kernel_rfl
theorem bytes12 : Tryd.prog.bytesOf 12 = 8 := by kernel_rfl
theorem agg12 : isAggT Tryd.prog 12 = false := by kernel_rfl
theorem ok12 : okT Tryd.prog 12 = true := by kernel_rfl
theorem zero13 : zeroE Tryd.prog 13 = some (.agg [.str [], .int .u64 0]) := by kernel_rfl
theorem zeros13 : zerosOf Tryd.prog 13 = some [.str [], .int .u64 0] := by kernel_rfl
theorem cells13 : Tryd.prog.cellsOf 13 = 2 := by kernel_rfl
theorem bytes13 : Tryd.prog.bytesOf 13 = 24 := by kernel_rfl
theorem agg13 : isAggT Tryd.prog 13 = true := by kernel_rfl
theorem ok13 : okT Tryd.prog 13 = true := by kernel_rfl
theorem zero14 : zeroE Tryd.prog 14 = some (.agg [.str [], .int .u64 0]) := by kernel_rfl
theorem zeros14 : zerosOf Tryd.prog 14 = some [.str [], .int .u64 0] := by kernel_rfl
theorem cells14 : Tryd.prog.cellsOf 14 = 2 := by kernel_rfl
theorem bytes14 : Tryd.prog.bytesOf 14 = 24 := by kernel_rfl
theorem agg14 : isAggT Tryd.prog 14 = true := by kernel_rfl
theorem ok14 : okT Tryd.prog 14 = true := by kernel_rfl
theorem zero15 : zeroE Tryd.prog 15 = some (.opq (.pointer none)) := by kernel_rfl
theorem zeros15 : zerosOf Tryd.prog 15 = some [.opq (.pointer none)] := by kernel_rfl
theorem cells15 : Tryd.prog.cellsOf 15 = 1 := by kernel_rfl
theorem bytes15 : Tryd.prog.bytesOf 15 = 8 := by kernel_rfl
theorem agg15 : isAggT Tryd.prog 15 = false := by kernel_rfl
theorem ok15 : okT Tryd.prog 15 = true := by kernel_rfl
theorem zero16 : zeroE Tryd.prog 16 = some (.opq (.pointer none)) := by kernel_rfl
theorem zeros16 : zerosOf Tryd.prog 16 = some [.opq (.pointer none)] := by kernel_rfl
theorem cells16 : Tryd.prog.cellsOf 16 = 1 := by kernel_rfl
theorem bytes16 : Tryd.prog.bytesOf 16 = 8 := by kernel_rfl
theorem agg16 : isAggT Tryd.prog 16 = false := by kernel_rfl
theorem ok16 : okT Tryd.prog 16 = true := by kernel_rfl
theorem zero17 : zeroE Tryd.prog 17 = some (.opq (.pointer none)) := by kernel_rfl
theorem zeros17 : zerosOf Tryd.prog 17 = some [.opq (.pointer none)] := by kernel_rfl
theorem cells17 : Tryd.prog.cellsOf 17 = 1 := by kernel_rfl
theorem bytes17 : Tryd.prog.bytesOf 17 = 8 := by kernel_rfl
theorem agg17 : isAggT Tryd.prog 17 = false := by kernel_rfl
theorem ok17 : okT Tryd.prog 17 = true := by kernel_rfl
theorem zero18 : zeroE Tryd.prog 18 = some (.agg [.opq (.pointer none)]) := by kernel_rfl
theorem zeros18 : zerosOf Tryd.prog 18 = some [.opq (.pointer none)] := by kernel_rfl
theorem cells18 : Tryd.prog.cellsOf 18 = 1 := by kernel_rfl
theorem bytes18 : Tryd.prog.bytesOf 18 = 8 := by kernel_rfl
theorem agg18 : isAggT Tryd.prog 18 = true := by kernel_rfl
theorem ok18 : okT Tryd.prog 18 = true := by kernel_rfl
theorem zero19 : zeroE Tryd.prog 19 = some (.agg [.opq (.pointer none)]) := by kernel_rfl
theorem zeros19 : zerosOf Tryd.prog 19 = some [.opq (.pointer none)] := by kernel_rfl
theorem cells19 : Tryd.prog.cellsOf 19 = 1 := by kernel_rfl
theorem bytes19 : Tryd.prog.bytesOf 19 = 8 := by kernel_rfl
theorem agg19 : isAggT Tryd.prog 19 = true := by kernel_rfl
theorem ok19 : okT Tryd.prog 19 = true := by kernel_rfl
theorem zero20 : zeroE Tryd.prog 20 = some (.opq .nilIface) := by kernel_rfl
theorem zeros20 : zerosOf Tryd.prog 20 = some [.opq .nilIface] := by kernel_rfl
theorem cells20 : Tryd.prog.cellsOf 20 = 1 := by kernel_rfl
theorem bytes20 : Tryd.prog.bytesOf 20 = 16 := by kernel_rfl
theorem agg20 : isAggT Tryd.prog 20 = false := by kernel_rfl
theorem ok20 : okT Tryd.prog 20 = true := by kernel_rfl
theorem zero21 : zeroE Tryd.prog 21 = some (.int .i32 0) := by kernel_rfl
theorem zeros21 : zerosOf Tryd.prog 21 = some [.int .i32 0] := by kernel_rfl
theorem cells21 : Tryd.prog.cellsOf 21 = 1 := by kernel_rfl
theorem bytes21 : Tryd.prog.bytesOf 21 = 4 := by kernel_rfl
theorem agg21 : isAggT Tryd.prog 21 = false := by kernel_rfl
theorem ok21 : okT Tryd.prog 21 = true := by kernel_rfl
theorem zero22 : zeroE Tryd.prog 22 = some (.agg [.int .i64 0, .int .i64 0]) := by kernel_rfl
theorem zeros22 : zerosOf Tryd.prog 22 = some [.int .i64 0, .int .i64 0] := by kernel_rfl
theorem cells22 : Tryd.prog.cellsOf 22 = 2 := by kernel_rfl
theorem bytes22 : Tryd.prog.bytesOf 22 = 16 := by kernel_rfl
theorem agg22 : isAggT Tryd.prog 22 = true := by kernel_rfl
theorem ok22 : okT Tryd.prog 22 = true := by kernel_rfl
theorem zero23 : zeroE Tryd.prog 23 = some (.agg [.int .i64 0, .int .i64 0]) := by kernel_rfl
theorem zeros23 : zerosOf Tryd.prog 23 = some [.int .i64 0, .int .i64 0] := by kernel_rfl
theorem cells23 : Tryd.prog.cellsOf 23 = 2 := by kernel_rfl
theorem bytes23 : Tryd.prog.bytesOf 23 = 16 := by kernel_rfl
theorem agg23 : isAggT Tryd.prog 23 = true := by kernel_rfl
theorem ok23 : okT Tryd.prog 23 = true := by kernel_rfl
theorem zero24 : zeroE Tryd.prog 24 = some (.opq .nilFunc) := by kernel_rfl
theorem zeros24 : zerosOf Tryd.prog 24 = some [.opq .nilFunc] := by kernel_rfl
theorem cells24 : Tryd.prog.cellsOf 24 = 1 := by kernel_rfl
theorem bytes24 : Tryd.prog.bytesOf 24 = 8 := by kernel_rfl
theorem agg24 : isAggT Tryd.prog 24 = false := by kernel_rfl
theorem ok24 : okT Tryd.prog 24 = true := by kernel_rfl
theorem zero25 : zeroE Tryd.prog 25 = some (.opq .nilFunc) := by kernel_rfl
theorem zeros25 : zerosOf Tryd.prog 25 = some [.opq .nilFunc] := by kernel_rfl
theorem cells25 : Tryd.prog.cellsOf 25 = 1 := by kernel_rfl
theorem bytes25 : Tryd.prog.bytesOf 25 = 8 := by kernel_rfl
theorem agg25 : isAggT Tryd.prog 25 = false := by kernel_rfl
theorem ok25 : okT Tryd.prog 25 = true := by kernel_rfl
theorem zero26 : zeroE Tryd.prog 26 = some (.int .u32 0) := by kernel_rfl
theorem zeros26 : zerosOf Tryd.prog 26 = some [.int .u32 0] := by kernel_rfl
theorem cells26 : Tryd.prog.cellsOf 26 = 1 := by kernel_rfl
theorem bytes26 : Tryd.prog.bytesOf 26 = 4 := by kernel_rfl
theorem agg26 : isAggT Tryd.prog 26 = false := by kernel_rfl
theorem ok26 : okT Tryd.prog 26 = true := by kernel_rfl
theorem zero27 : zeroE Tryd.prog 27 = some (.agg [.int .i64 0, .int .i64 0, .int .i64 0, .int .i64 0, .str [], .str [], .int .i64 0, .int .u32 0, .bool false]) := by kernel_rfl
theorem zeros27 : zerosOf Tryd.prog 27 = some [.int .i64 0, .int .i64 0, .int .i64 0, .int .i64 0, .str [], .str [], .int .i64 0, .int .u32 0, .bool false] := by kernel_rfl
theorem cells27 : Tryd.prog.cellsOf 27 = 9 := by kernel_rfl
theorem bytes27 : Tryd.prog.bytesOf 27 = 80 := by kernel_rfl
theorem agg27 : isAggT Tryd.prog 27 = true := by kernel_rfl
theorem ok27 : okT Tryd.prog 27 = true := by kernel_rfl
theorem zero28 : zeroE Tryd.prog 28 = some (.agg [.int .i64 0, .int .i64 0, .int .i64 0, .int .i64 0, .str [], .str [], .int .i64 0, .int .u32 0, .bool false]) := by kernel_rfl
theorem zeros28 : zerosOf Tryd.prog 28 = some [.int .i64 0, .int .i64 0, .int .i64 0, .int .i64 0, .str [], .str [], .int .i64 0, .int .u32 0, .bool false] := by kernel_rfl
theorem cells28 : Tryd.prog.cellsOf 28 = 9 := by kernel_rfl
theorem bytes28 : Tryd.prog.bytesOf 28 = 80 := by kernel_rfl
theorem agg28 : isAggT Tryd.prog 28 = true := by kernel_rfl
theorem ok28 : okT Tryd.prog 28 = true := by kernel_rfl
theorem zero29 : zeroE Tryd.prog 29 = some (.opq .nilFunc) := by kernel_rfl
theorem zeros29 : zerosOf Tryd.prog 29 = some [.opq .nilFunc] := by kernel_rfl
theorem cells29 : Tryd.prog.cellsOf 29 = 1 := by kernel_rfl
theorem bytes29 : Tryd.prog.bytesOf 29 = 8 := by kernel_rfl
theorem agg29 : isAggT Tryd.prog 29 = false := by kernel_rfl
theorem ok29 : okT Tryd.prog 29 = true := by kernel_rfl
theorem zero30 : zeroE Tryd.prog 30 = some (.sl []) := by kernel_rfl
theorem zeros30 : zerosOf Tryd.prog 30 = some [.sl []] := by kernel_rfl
theorem cells30 : Tryd.prog.cellsOf 30 = 1 := by kernel_rfl
theorem bytes30 : Tryd.prog.bytesOf 30 = 24 := by kernel_rfl
theorem agg30 : isAggT Tryd.prog 30 = false := by kernel_rfl
theorem ok30 : okT Tryd.prog 30 = true := by kernel_rfl
theorem cells31 : Tryd.prog.cellsOf 31 = 1 := by kernel_rfl
theorem bytes31 : Tryd.prog.bytesOf 31 = 0 := by kernel_rfl
theorem agg31 : isAggT Tryd.prog 31 = false := by kernel_rfl
theorem ok31 : okT Tryd.prog 31 = true := by kernel_rfl
theorem zero32 : zeroE Tryd.prog 32 = some (.opq .nilFunc) := by kernel_rfl
theorem zeros32 : zerosOf Tryd.prog 32 = some [.opq .nilFunc] := by kernel_rfl
theorem cells32 : Tryd.prog.cellsOf 32 = 1 := by kernel_rfl
theorem bytes32 : Tryd.prog.bytesOf 32 = 8 := by kernel_rfl
theorem agg32 : isAggT Tryd.prog 32 = false := by kernel_rfl
theorem ok32 : okT Tryd.prog 32 = true := by kernel_rfl
theorem zero33 : zeroE Tryd.prog 33 = some (.opq .nilFunc) := by kernel_rfl
theorem zeros33 : zerosOf Tryd.prog 33 = some [.opq .nilFunc] := by kernel_rfl
theorem cells33 : Tryd.prog.cellsOf 33 = 1 := by kernel_rfl
theorem bytes33 : Tryd.prog.bytesOf 33 = 8 := by kernel_rfl
theorem agg33 : isAggT Tryd.prog 33 = false := by kernel_rfl
theorem ok33 : okT Tryd.prog 33 = true := by kernel_rfl
theorem zero34 : zeroE Tryd.prog 34 = some (.opq .nilFunc) := by kernel_rfl
theorem zeros34 : zerosOf Tryd.prog 34 = some [.opq .nilFunc] := by kernel_rfl
theorem cells34 : Tryd.prog.cellsOf 34 = 1 := by kernel_rfl
theorem bytes34 : Tryd.prog.bytesOf 34 = 8 := by kernel_rfl
theorem agg34 : isAggT Tryd.prog 34 = false := by kernel_rfl
theorem ok34 : okT Tryd.prog 34 = true := by kernel_rfl
theorem zero35 : zeroE Tryd.prog 35 = some (.opq .nilFunc) := by kernel_rfl
theorem zeros35 : zerosOf Tryd.prog 35 = some [.opq .nilFunc] := by kernel_rfl
theorem cells35 : Tryd.prog.cellsOf 35 = 1 := by kernel_rfl
theorem bytes35 : Tryd.prog.bytesOf 35 = 8 := by kernel_rfl
theorem agg35 : isAggT Tryd.prog 35 = false := by kernel_rfl
theorem ok35 : okT Tryd.prog 35 = true := by kernel_rfl
theorem zero36 : zeroE Tryd.prog 36 = some (.sl []) := by kernel_rfl
theorem zeros36 : zerosOf Tryd.prog 36 = some [.sl []] := by kernel_rfl
theorem cells36 : Tryd.prog.cellsOf 36 = 1 := by kernel_rfl
theorem bytes36 : Tryd.prog.bytesOf 36 = 24 := by kernel_rfl
theorem agg36 : isAggT Tryd.prog 36 = false := by kernel_rfl
theorem ok36 : okT Tryd.prog 36 = true := by kernel_rfl
theorem zero37 : zeroE Tryd.prog 37 = some (.opq .nilFunc) := by kernel_rfl
theorem zeros37 : zerosOf Tryd.prog 37 = some [.opq .nilFunc] := by kernel_rfl
theorem cells37 : Tryd.prog.cellsOf 37 = 1 := by kernel_rfl
theorem bytes37 : Tryd.prog.bytesOf 37 = 8 := by kernel_rfl
theorem agg37 : isAggT Tryd.prog 37 = false := by kernel_rfl
theorem ok37 : okT Tryd.prog 37 = true := by kernel_rfl
theorem zero38 : zeroE Tryd.prog 38 = some (.opq .nilFunc) := by kernel_rfl
theorem zeros38 : zerosOf Tryd.prog 38 = some [.opq .nilFunc] := by kernel_rfl
theorem cells38 : Tryd.prog.cellsOf 38 = 1 := by kernel_rfl
theorem bytes38 : Tryd.prog.bytesOf 38 = 8 := by kernel_rfl
theorem agg38 : isAggT Tryd.prog 38 = false := by kernel_rfl
theorem ok38 : okT Tryd.prog 38 = true := by kernel_rfl
theorem zero39 : zeroE Tryd.prog 39 = some (.opq .nilFunc) := by kernel_rfl
theorem zeros39 : zerosOf Tryd.prog 39 = some [.opq .nilFunc] := by kernel_rfl
theorem cells39 : Tryd.prog.cellsOf 39 = 1 := by kernel_rfl
theorem bytes39 : Tryd.prog.bytesOf 39 = 8 := by kernel_rfl
theorem agg39 : isAggT Tryd.prog 39 = false := by kernel_rfl
theorem ok39 : okT Tryd.prog 39 = true := by kernel_rfl
theorem cells40 : Tryd.prog.cellsOf 40 = 1 := by kernel_rfl
theorem bytes40 : Tryd.prog.bytesOf 40 = 0 := by kernel_rfl
theorem agg40 : isAggT Tryd.prog 40 = false := by kernel_rfl
theorem ok40 : okT Tryd.prog 40 = true := by kernel_rfl
theorem zero41 : zeroE Tryd.prog 41 = some (.opq .nilFunc) := by kernel_rfl
theorem zeros41 : zerosOf Tryd.prog 41 = some [.opq .nilFunc] := by kernel_rfl
theorem cells41 : Tryd.prog.cellsOf 41 = 1 := by kernel_rfl
theorem bytes41 : Tryd.prog.bytesOf 41 = 8 := by kernel_rfl
theorem agg41 : isAggT Tryd.prog 41 = false := by kernel_rfl
theorem ok41 : okT Tryd.prog 41 = true := by kernel_rfl
theorem zero42 : zeroE Tryd.prog 42 = some (.opq .nilFunc) := by kernel_rfl
theorem zeros42 : zerosOf Tryd.prog 42 = some [.opq .nilFunc] := by kernel_rfl
theorem cells42 : Tryd.prog.cellsOf 42 = 1 := by kernel_rfl
theorem bytes42 : Tryd.prog.bytesOf 42 = 8 := by kernel_rfl
theorem agg42 : isAggT Tryd.prog 42 = false := by kernel_rfl
theorem ok42 : okT Tryd.prog 42 = true := by kernel_rfl
theorem zero43 : zeroE Tryd.prog 43 = some (.agg [.int .i64 0, .sl []]) := by kernel_rfl
theorem zeros43 : zerosOf Tryd.prog 43 = some [.int .i64 0, .sl []] := by kernel_rfl
theorem cells43 : Tryd.prog.cellsOf 43 = 2 := by kernel_rfl
theorem bytes43 : Tryd.prog.bytesOf 43 = 32 := by kernel_rfl
theorem agg43 : isAggT Tryd.prog 43 = true := by kernel_rfl
theorem ok43 : okT Tryd.prog 43 = true := by kernel_rfl
theorem zero44 : zeroE Tryd.prog 44 = some (.agg [.int .i64 0, .sl []]) := by kernel_rfl
theorem zeros44 : zerosOf Tryd.prog 44 = some [.int .i64 0, .sl []] := by kernel_rfl
theorem cells44 : Tryd.prog.cellsOf 44 = 2 := by kernel_rfl
theorem bytes44 : Tryd.prog.bytesOf 44 = 32 := by kernel_rfl
theorem agg44 : isAggT Tryd.prog 44 = true := by kernel_rfl
theorem ok44 : okT Tryd.prog 44 = true := by kernel_rfl
theorem cells45 : Tryd.prog.cellsOf 45 = 1 := by kernel_rfl
theorem bytes45 : Tryd.prog.bytesOf 45 = 0 := by kernel_rfl
theorem agg45 : isAggT Tryd.prog 45 = false := by kernel_rfl
theorem ok45 : okT Tryd.prog 45 = true := by kernel_rfl
theorem zero46 : zeroE Tryd.prog 46 = some (.opq .nilFunc) := by kernel_rfl
theorem zeros46 : zerosOf Tryd.prog 46 = some [.opq .nilFunc] := by kernel_rfl
theorem cells46 : Tryd.prog.cellsOf 46 = 1 := by kernel_rfl
theorem bytes46 : Tryd.prog.bytesOf 46 = 8 := by kernel_rfl
theorem agg46 : isAggT Tryd.prog 46 = false := by kernel_rfl
theorem ok46 : okT Tryd.prog 46 = true := by kernel_rfl
theorem zero47 : zeroE Tryd.prog 47 = some (.opq .nilFunc) := by kernel_rfl
theorem zeros47 : zerosOf Tryd.prog 47 = some [.opq .nilFunc] := by kernel_rfl
theorem cells47 : Tryd.prog.cellsOf 47 = 1 := by kernel_rfl
theorem bytes47 : Tryd.prog.bytesOf 47 = 8 := by kernel_rfl
theorem agg47 : isAggT Tryd.prog 47 = false := by kernel_rfl
theorem ok47 : okT Tryd.prog 47 = true := by kernel_rfl
theorem zero48 : zeroE Tryd.prog 48 = some (.sl []) := by kernel_rfl
theorem zeros48 : zerosOf Tryd.prog 48 = some [.sl []] := by kernel_rfl
theorem cells48 : Tryd.prog.cellsOf 48 = 1 := by kernel_rfl
theorem bytes48 : Tryd.prog.bytesOf 48 = 24 := by kernel_rfl
theorem agg48 : isAggT Tryd.prog 48 = false := by kernel_rfl
theorem ok48 : okT Tryd.prog 48 = true := by kernel_rfl
theorem zero49 : zeroE Tryd.prog 49 = some (.sl []) := by kernel_rfl
theorem zeros49 : zerosOf Tryd.prog 49 = some [.sl []] := by kernel_rfl
theorem cells49 : Tryd.prog.cellsOf 49 = 1 := by kernel_rfl
theorem bytes49 : Tryd.prog.bytesOf 49 = 24 := by kernel_rfl
theorem agg49 : isAggT Tryd.prog 49 = false := by kernel_rfl
theorem ok49 : okT Tryd.prog 49 = true := by kernel_rfl
theorem zero50 : zeroE Tryd.prog 50 = some (.opq .nilFunc) := by kernel_rfl
theorem zeros50 : zerosOf Tryd.prog 50 = some [.opq .nilFunc] := by kernel_rfl
theorem cells50 : Tryd.prog.cellsOf 50 = 1 := by kernel_rfl
theorem bytes50 : Tryd.prog.bytesOf 50 = 8 := by kernel_rfl
theorem agg50 : isAggT Tryd.prog 50 = false := by kernel_rfl
theorem ok50 : okT Tryd.prog 50 = true := by kernel_rfl
theorem zero51 : zeroE Tryd.prog 51 = some (.opq .nilFunc) := by kernel_rfl
theorem zeros51 : zerosOf Tryd.prog 51 = some [.opq .nilFunc] := by kernel_rfl
theorem cells51 : Tryd.prog.cellsOf 51 = 1 := by kernel_rfl
theorem bytes51 : Tryd.prog.bytesOf 51 = 8 := by kernel_rfl
theorem agg51 : isAggT Tryd.prog 51 = false := by kernel_rfl
theorem ok51 : okT Tryd.prog 51 = true := by kernel_rfl
theorem zero52 : zeroE Tryd.prog 52 = some (.opq .nilFunc) := by kernel_rfl
theorem zeros52 : zerosOf Tryd.prog 52 = some [.opq .nilFunc] := by kernel_rfl
theorem cells52 : Tryd.prog.cellsOf 52 = 1 := by kernel_rfl
theorem bytes52 : Tryd.prog.bytesOf 52 = 8 := by kernel_rfl
theorem agg52 : isAggT Tryd.prog 52 = false := by kernel_rfl
theorem ok52 : okT Tryd.prog 52 = true := by kernel_rfl
theorem zero53 : zeroE Tryd.prog 53 = some (.opq .nilFunc) := by kernel_rfl
theorem zeros53 : zerosOf Tryd.prog 53 = some [.opq .nilFunc] := by kernel_rfl
theorem cells53 : Tryd.prog.cellsOf 53 = 1 := by kernel_rfl
theorem bytes53 : Tryd.prog.bytesOf 53 = 8 := by kernel_rfl
theorem agg53 : isAggT Tryd.prog 53 = false := by kernel_rfl
theorem ok53 : okT Tryd.prog 53 = true := by kernel_rfl
theorem zero54 : zeroE Tryd.prog 54 = some (.agg [.opq (.pointer none), .opq (.pointer none), .opq (.pointer none), .str []]) := by kernel_rfl
theorem zeros54 : zerosOf Tryd.prog 54 = some [.opq (.pointer none), .opq (.pointer none), .opq (.pointer none), .str []] := by kernel_rfl
theorem cells54 : Tryd.prog.cellsOf 54 = 4 := by kernel_rfl
theorem bytes54 : Tryd.prog.bytesOf 54 = 40 := by kernel_rfl
theorem agg54 : isAggT Tryd.prog 54 = true := by kernel_rfl
theorem ok54 : okT Tryd.prog 54 = true := by kernel_rfl
theorem zero55 : zeroE Tryd.prog 55 = some (.agg [.opq (.pointer none), .opq (.pointer none), .opq (.pointer none), .str []]) := by kernel_rfl
theorem zeros55 : zerosOf Tryd.prog 55 = some [.opq (.pointer none), .opq (.pointer none), .opq (.pointer none), .str []] := by kernel_rfl
theorem cells55 : Tryd.prog.cellsOf 55 = 4 := by kernel_rfl
theorem bytes55 : Tryd.prog.bytesOf 55 = 40 := by kernel_rfl
theorem agg55 : isAggT Tryd.prog 55 = true := by kernel_rfl
theorem ok55 : okT Tryd.prog 55 = true := by kernel_rfl
theorem zero56 : zeroE Tryd.prog 56 = some (.agg []) := by kernel_rfl
theorem zeros56 : zerosOf Tryd.prog 56 = some [] := by kernel_rfl
theorem zero57 : zeroE Tryd.prog 57 = some (.agg []) := by kernel_rfl
theorem zeros57 : zerosOf Tryd.prog 57 = some [] := by kernel_rfl
theorem zero58 : zeroE Tryd.prog 58 = some (.agg []) := by kernel_rfl
theorem zeros58 : zerosOf Tryd.prog 58 = some [] := by kernel_rfl
theorem zero59 : zeroE Tryd.prog 59 = some (.opq .nilFunc) := by kernel_rfl
theorem zeros59 : zerosOf Tryd.prog 59 = some [.opq .nilFunc] := by kernel_rfl
theorem cells59 : Tryd.prog.cellsOf 59 = 1 := by kernel_rfl
theorem bytes59 : Tryd.prog.bytesOf 59 = 8 := by kernel_rfl
theorem agg59 : isAggT Tryd.prog 59 = false := by kernel_rfl
theorem ok59 : okT Tryd.prog 59 = true := by kernel_rfl
theorem zero60 : zeroE Tryd.prog 60 = some (.int .u8 0) := by kernel_rfl
theorem zeros60 : zerosOf Tryd.prog 60 = some [.int .u8 0] := by kernel_rfl
theorem cells60 : Tryd.prog.cellsOf 60 = 1 := by kernel_rfl
theorem bytes60 : Tryd.prog.bytesOf 60 = 1 := by kernel_rfl
theorem agg60 : isAggT Tryd.prog 60 = false := by kernel_rfl
theorem ok60 : okT Tryd.prog 60 = true := by kernel_rfl
theorem zero61 : zeroE Tryd.prog 61 = some (.int .u8 0) := by kernel_rfl
theorem zeros61 : zerosOf Tryd.prog 61 = some [.int .u8 0] := by kernel_rfl
theorem cells61 : Tryd.prog.cellsOf 61 = 1 := by kernel_rfl
theorem bytes61 : Tryd.prog.bytesOf 61 = 1 := by kernel_rfl
theorem agg61 : isAggT Tryd.prog 61 = false := by kernel_rfl
theorem ok61 : okT Tryd.prog 61 = true := by kernel_rfl
theorem zero62 : zeroE Tryd.prog 62 = some (.opq .nilFunc) := by kernel_rfl
theorem zeros62 : zerosOf Tryd.prog 62 = some [.opq .nilFunc] := by kernel_rfl
theorem cells62 : Tryd.prog.cellsOf 62 = 1 := by kernel_rfl
theorem bytes62 : Tryd.prog.bytesOf 62 = 8 := by kernel_rfl
theorem agg62 : isAggT Tryd.prog 62 = false := by kernel_rfl
theorem ok62 : okT Tryd.prog 62 = true := by kernel_rfl
theorem zero63 : zeroE Tryd.prog 63 = some (.opq (.pointer none)) := by kernel_rfl
theorem zeros63 : zerosOf Tryd.prog 63 = some [.opq (.pointer none)] := by kernel_rfl
theorem cells63 : Tryd.prog.cellsOf 63 = 1 := by kernel_rfl
theorem bytes63 : Tryd.prog.bytesOf 63 = 8 := by kernel_rfl
theorem agg63 : isAggT Tryd.prog 63 = false := by kernel_rfl
theorem ok63 : okT Tryd.prog 63 = true := by kernel_rfl
theorem zero64 : zeroE Tryd.prog 64 = some (.int .i32 0) := by kernel_rfl
theorem zeros64 : zerosOf Tryd.prog 64 = some [.int .i32 0] := by kernel_rfl
theorem cells64 : Tryd.prog.cellsOf 64 = 1 := by kernel_rfl
theorem bytes64 : Tryd.prog.bytesOf 64 = 4 := by kernel_rfl
theorem agg64 : isAggT Tryd.prog 64 = false := by kernel_rfl
theorem ok64 : okT Tryd.prog 64 = true := by kernel_rfl
theorem zero65 : zeroE Tryd.prog 65 = some (.int .i32 0) := by kernel_rfl
theorem zeros65 : zerosOf Tryd.prog 65 = some [.int .i32 0] := by kernel_rfl
theorem cells65 : Tryd.prog.cellsOf 65 = 1 := by kernel_rfl
theorem bytes65 : Tryd.prog.bytesOf 65 = 4 := by kernel_rfl
theorem agg65 : isAggT Tryd.prog 65 = false := by kernel_rfl
theorem ok65 : okT Tryd.prog 65 = true := by kernel_rfl
theorem zero66 : zeroE Tryd.prog 66 = some (.agg [.int .u64 0, .int .u64 0, .int .u32 0, .int .u8 0, .int .u8 0, .int .u8 0, .int .u8 0, .opq .nilFunc, .opq (.pointer none), .int .i32 0, .int .i32 0]) := by kernel_rfl
theorem zeros66 : zerosOf Tryd.prog 66 = some [.int .u64 0, .int .u64 0, .int .u32 0, .int .u8 0, .int .u8 0, .int .u8 0, .int .u8 0, .opq .nilFunc, .opq (.pointer none), .int .i32 0, .int .i32 0] := by kernel_rfl
theorem cells66 : Tryd.prog.cellsOf 66 = 11 := by kernel_rfl
theorem bytes66 : Tryd.prog.bytesOf 66 = 48 := by kernel_rfl
theorem agg66 : isAggT Tryd.prog 66 = true := by kernel_rfl
theorem ok66 : okT Tryd.prog 66 = true := by kernel_rfl
theorem zero67 : zeroE Tryd.prog 67 = some (.agg [.int .u64 0, .int .u64 0, .int .u32 0, .int .u8 0, .int .u8 0, .int .u8 0, .int .u8 0, .opq .nilFunc, .opq (.pointer none), .int .i32 0, .int .i32 0]) := by kernel_rfl
theorem zeros67 : zerosOf Tryd.prog 67 = some [.int .u64 0, .int .u64 0, .int .u32 0, .int .u8 0, .int .u8 0, .int .u8 0, .int .u8 0, .opq .nilFunc, .opq (.pointer none), .int .i32 0, .int .i32 0] := by kernel_rfl
theorem cells67 : Tryd.prog.cellsOf 67 = 11 := by kernel_rfl
theorem bytes67 : Tryd.prog.bytesOf 67 = 48 := by kernel_rfl
theorem agg67 : isAggT Tryd.prog 67 = true := by kernel_rfl
theorem ok67 : okT Tryd.prog 67 = true := by kernel_rfl
theorem zero68 : zeroE Tryd.prog 68 = some (.opq (.pointer none)) := by kernel_rfl
theorem zeros68 : zerosOf Tryd.prog 68 = some [.opq (.pointer none)] := by kernel_rfl
theorem cells68 : Tryd.prog.cellsOf 68 = 1 := by kernel_rfl
theorem bytes68 : Tryd.prog.bytesOf 68 = 8 := by kernel_rfl
theorem agg68 : isAggT Tryd.prog 68 = false := by kernel_rfl
theorem ok68 : okT Tryd.prog 68 = true := by kernel_rfl
theorem place23 : placeV Tryd.prog 23 = some (fun i => ([(0, 1), (1, 1)] : List (Nat × Nat))[i]?) := placeV_of Tryd.underlying23 (by kernel_rfl) (by kernel_rfl)
theorem place28 : placeV Tryd.prog 28 = some (fun i => ([(0, 1), (1, 1), (2, 1), (3, 1), (4, 1), (5, 1), (6, 1), (7, 1), (8, 1)] : List (Nat × Nat))[i]?) := placeV_of Tryd.underlying28 (by kernel_rfl) (by kernel_rfl)
theorem place44 : placeV Tryd.prog 44 = some (fun i => ([(0, 1), (1, 1)] : List (Nat × Nat))[i]?) := placeV_of Tryd.underlying44 (by kernel_rfl) (by kernel_rfl)
attribute [go_sem] cells0 bytes0 agg0 ok0 zero1 zeros1 cells1 bytes1 agg1 ok1 zero2 zeros2 cells2 bytes2 agg2 ok2 zero3 zeros3 cells3 bytes3 agg3 ok3 zero4 zeros4 cells4 bytes4 agg4 ok4 zero5 zeros5 cells5 bytes5 agg5 ok5 zero6 zeros6 cells6 bytes6 agg6 ok6 zero7 zeros7 cells7 bytes7 agg7 ok7 zero8 zeros8 cells8 bytes8 agg8 ok8 zero9 zeros9 cells9 bytes9 agg9 ok9 zero10 zeros10 cells10 bytes10 agg10 ok10 zero11 zeros11 cells11 bytes11 agg11 ok11 zero12 zeros12 cells12 bytes12 agg12 ok12 zero13 zeros13 cells13 bytes13 agg13 ok13 zero14 zeros14 cells14 bytes14 agg14 ok14 zero15 zeros15 cells15 bytes15 agg15 ok15 zero16 zeros16 cells16 bytes16 agg16 ok16 zero17 zeros17 cells17 bytes17 agg17 ok17 zero18 zeros18 cells18 bytes18 agg18 ok18 zero19 zeros19 cells19 bytes19 agg19 ok19 zero20 zeros20 cells20 bytes20 agg20 ok20 zero21 zeros21 cells21 bytes21 agg21 ok21 zero22 zeros22 cells22 bytes22 agg22 ok22 zero23 zeros23 cells23 bytes23 agg23 ok23 zero24 zeros24 cells24 bytes24 agg24 ok24 zero25 zeros25 cells25 bytes25 agg25 ok25 zero26 zeros26 cells26 bytes26 agg26 ok26 zero27 zeros27 cells27 bytes27 agg27 ok27 zero28 zeros28 cells28 bytes28 agg28 ok28 zero29 zeros29 cells29 bytes29 agg29 ok29 zero30 zeros30 cells30 bytes30 agg30 ok30 cells31 bytes31 agg31 ok31 zero32 zeros32 cells32 bytes32 agg32 ok32 zero33 zeros33 cells33 bytes33 agg33 ok33 zero34 zeros34 cells34 bytes34 agg34 ok34 zero35 zeros35 cells35 bytes35 agg35 ok35 zero36 zeros36 cells36 bytes36 agg36 ok36 zero37 zeros37 cells37 bytes37 agg37 ok37 zero38 zeros38 cells38 bytes38 agg38 ok38 zero39 zeros39 cells39 bytes39 agg39 ok39 cells40 bytes40 agg40 ok40 zero41 zeros41 cells41 bytes41 agg41 ok41 zero42 zeros42 cells42 bytes42 agg42 ok42 zero43 zeros43 cells43 bytes43 agg43 ok43 zero44 zeros44 cells44 bytes44 agg44 ok44 cells45 bytes45 agg45 ok45 zero46 zeros46 cells46 bytes46 agg46 ok46 zero47 zeros47 cells47 bytes47 agg47 ok47 zero48 zeros48 cells48 bytes48 agg48 ok48 zero49 zeros49 cells49 bytes49 agg49 ok49 zero50 zeros50 cells50 bytes50 agg50 ok50 zero51 zeros51 cells51 bytes51 agg51 ok51 zero52 zeros52 cells52 bytes52 agg52 ok52 zero53 zeros53 cells53 bytes53 agg53 ok53 zero54 zeros54 cells54 bytes54 agg54 ok54 zero55 zeros55 cells55 bytes55 agg55 ok55 zero56 zeros56 zero57 zeros57 zero58 zeros58 zero59 zeros59 cells59 bytes59 agg59 ok59 zero60 zeros60 cells60 bytes60 agg60 ok60 zero61 zeros61 cells61 bytes61 agg61 ok61 zero62 zeros62 cells62 bytes62 agg62 ok62 zero63 zeros63 cells63 bytes63 agg63 ok63 zero64 zeros64 cells64 bytes64 agg64 ok64 zero65 zeros65 cells65 bytes65 agg65 ok65 zero66 zeros66 cells66 bytes66 agg66 ok66 zero67 zeros67 cells67 bytes67 agg67 ok67 zero68 zeros68 cells68 bytes68 agg68 ok68 place23 place28 place44
theorem eqT23 : env.eqT 23 = some [.int .i64, .int .i64] := rfl
attribute [go_sem] eqT23
theorem eqOk23 : EqOk Tryd.prog 23 [.int .i64, .int .i64] := eqOk_of (by kernel_rfl) (by kernel_rfl) (by kernel_rfl) (by kernel_rfl)
theorem envEq : EnvEq Tryd.prog env := ⟨fun t ks h => lk_all (lk := lk1) (p := fun t ks => EqOk Tryd.prog t ks) (fun _ => rfl) (fun _ _ _ _ => rfl) eqT (by intro q hq; simp only [eqT, List.mem_cons, List.not_mem_nil, or_false] at hq; rcases hq with rfl <;> first | exact eqOk23) t ks h⟩
theorem envOk : EnvOk Tryd.prog env := ⟨envEq, fun g hh h => by cases h⟩
theorem envLoc : ∀ g hh, env.intr g = some hh → ∀ args nk, Local fun S => hh args S nk := fun g hh h => by cases h
theorem allFuncs {p : Nat → Func → Bool} (h : ((List.range Tryd.prog.funcs.size).all fun g => match Tryd.prog.funcs[g]? with | some fn => p g fn | none => true) = true) (g : Nat) (fn : Func) (hf : Tryd.prog.funcs[g]? = some fn) : p g fn = true := by
  have h1 := List.all_eq_true.1 h g (List.mem_range.2 (Array.getElem?_eq_some_iff.1 hf).1)
  rw [hf] at h1
  exact h1
theorem envCode : ∀ (g : Nat) fn c, Tryd.prog.funcs[g]? = some fn → fn.body = some c → codeOk (env.reg g) c = true := by
  intro g fn c hf hb
  have := allFuncs (p := fun g fn => match fn.body with | some c => codeOk (env.reg g) c | none => true) (by kernel_rfl) g fn hf
  rw [hb] at this
  exact this
theorem envName : ∀ (g : Nat) fn, Tryd.prog.funcs[g]? = some fn → fn.name ≠ "runtime.NumGoroutine" := by
  intro g fn hf
  have := allFuncs (p := fun g fn => decide (fn.name ≠ "runtime.NumGoroutine")) (by kernel_rfl) g fn hf
  simpa using this
theorem envAll : EnvAll Tryd.prog env := ⟨envOk, envLoc, by kernel_rfl, envCode, envName⟩
theorem own : ownKnob Tryd.prog.godebug = none := by kernel_rfl
theorem laidOut : laidOutB Tryd.prog = true := by kernel_rfl
end Go.Proofs.YtkjoolmkgpmlfaaDoorZ
