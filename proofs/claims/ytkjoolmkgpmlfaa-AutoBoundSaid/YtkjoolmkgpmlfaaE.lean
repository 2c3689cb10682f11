/- YtkjoolmkgpmlfaaE: what is told of the program beside its text. No claim. -/
import Derived.Test.Ytkjoolmkgpmlfaa27
import Derived.Test.YtkjoolmkgpmlfaaRows
set_option linter.unusedVariables false
set_option linter.unusedSimpArgs false
set_option maxRecDepth 100000
namespace Go.Proofs.Ytkjoolmkgpmlfaa
open Go Go.Proofs.Ytkjoolmkgpmlfaa.V
def annT : List (Nat × Nat × List Nat) := [(4, 11, [3, 7, 14, 15, 16]), (4, 19, [3, 7, 14, 15, 16, 18, 19, 21]), (12, 6, [3, 4, 6, 10, 45, 46, 47]), (17, 2, [0, 1, 7, 8])]
def regT : List (Nat × Nat × List (List Nat)) := [(3, 4, [[], [0], [], [0, 1, 2], [0, 1, 2, 3], [0, 1, 2, 3, 4], [0, 1, 2, 3, 4, 5], [0, 1, 2, 3, 4, 5, 6], [0, 1, 2, 3, 4, 5], [0, 1, 2, 3, 4, 5, 6, 7, 8], [0, 1, 2, 3, 4, 5, 6, 7, 8, 9], [0, 1, 2, 3, 4, 5, 6, 7, 8, 9, 10], [0, 1, 2, 3, 4, 5, 6, 7, 8, 9, 10, 11]]), (14, 2, [[], [0], [], [2], [], [0, 1], [0, 1, 2, 3, 5], [0, 1, 2, 3, 4, 5, 6]])]
def lk2 {α : Type} (d : α) : List (Nat × Nat × α) → Nat → Nat → α
  | [], _, _ => d
  | (f, r, a) :: l, f', r' => match f.beq f' && r.beq r' with
    | true => a
    | false => lk2 d l f' r'
def lk1 {α : Type} : List (Nat × α) → Nat → Option α
  | [], _ => none
  | (f, a) :: l, f' => match f.beq f' with
    | true => some a
    | false => lk1 l f'
def eqT : List (Nat × List Kc) := [(23, [.int .i64, .int .i64])]
def env : Env where
  ann := lk2 [] annT
  reg := lk2 [] regT
  eqT := lk1 eqT
attribute [go_sem] Try.underlying0 Try.underlying1 Try.underlying2 Try.underlying3 Try.underlying4 Try.underlying5 Try.underlying6 Try.underlying7 Try.underlying8 Try.underlying9 Try.underlying10 Try.underlying11 Try.underlying12 Try.underlying13 Try.underlying14 Try.underlying15 Try.underlying16 Try.underlying17 Try.underlying18 Try.underlying19 Try.underlying20 Try.underlying21 Try.underlying22 Try.underlying23 Try.underlying24 Try.underlying25 Try.underlying26 Try.underlying27 Try.underlying28 Try.underlying29 Try.underlying30 Try.underlying31 Try.underlying32 Try.underlying33 Try.underlying34 Try.underlying35 Try.underlying36 Try.underlying37 Try.underlying38 Try.underlying39 Try.underlying40 Try.underlying41 Try.underlying42 Try.underlying43 Try.underlying44 Try.underlying45 Try.underlying46 Try.underlying47 Try.underlying48 Try.underlying49 Try.underlying50 Try.underlying51 Try.underlying52 Try.underlying53 Try.underlying54 Try.underlying55 Try.underlying56 Try.underlying57 Try.underlying58 Try.underlying59 Try.underlying60 Try.underlying61 Try.underlying62 Try.underlying63 Try.underlying64
theorem cells0 : Try.prog.cellsOf 0 = 1 := by kernel_rfl
theorem bytes0 : Try.prog.bytesOf 0 = 0 := by kernel_rfl
theorem agg0 : isAggT Try.prog 0 = false := by kernel_rfl
theorem ok0 : okT Try.prog 0 = true := by kernel_rfl
theorem zero1 : zeroE Try.prog 1 = some (.opq .nilFunc) := by kernel_rfl
theorem zeros1 : zerosOf Try.prog 1 = some [.opq .nilFunc] := by kernel_rfl
theorem cells1 : Try.prog.cellsOf 1 = 1 := by kernel_rfl
theorem bytes1 : Try.prog.bytesOf 1 = 8 := by kernel_rfl
theorem agg1 : isAggT Try.prog 1 = false := by kernel_rfl
theorem ok1 : okT Try.prog 1 = true := by kernel_rfl
theorem zero2 : zeroE Try.prog 2 = some (.int .i64 0) := by kernel_rfl
theorem zeros2 : zerosOf Try.prog 2 = some [.int .i64 0] := by kernel_rfl
theorem cells2 : Try.prog.cellsOf 2 = 1 := by kernel_rfl
theorem bytes2 : Try.prog.bytesOf 2 = 8 := by kernel_rfl
theorem agg2 : isAggT Try.prog 2 = false := by kernel_rfl
theorem ok2 : okT Try.prog 2 = true := by kernel_rfl
theorem zero3 : zeroE Try.prog 3 = some (.int .i64 0) := by kernel_rfl
theorem zeros3 : zerosOf Try.prog 3 = some [.int .i64 0] := by kernel_rfl
theorem cells3 : Try.prog.cellsOf 3 = 1 := by kernel_rfl
theorem bytes3 : Try.prog.bytesOf 3 = 8 := by kernel_rfl
theorem agg3 : isAggT Try.prog 3 = false := by kernel_rfl
theorem ok3 : okT Try.prog 3 = true := by kernel_rfl
theorem zero4 : zeroE Try.prog 4 = some (.bool false) := by kernel_rfl
theorem zeros4 : zerosOf Try.prog 4 = some [.bool false] := by kernel_rfl
theorem cells4 : Try.prog.cellsOf 4 = 1 := by kernel_rfl
theorem bytes4 : Try.prog.bytesOf 4 = 1 := by kernel_rfl
theorem agg4 : isAggT Try.prog 4 = false := by kernel_rfl
theorem ok4 : okT Try.prog 4 = true := by kernel_rfl
theorem zero5 : zeroE Try.prog 5 = some (.int .u8 0) := by kernel_rfl
theorem zeros5 : zerosOf Try.prog 5 = some [.int .u8 0] := by kernel_rfl
theorem cells5 : Try.prog.cellsOf 5 = 1 := by kernel_rfl
theorem bytes5 : Try.prog.bytesOf 5 = 1 := by kernel_rfl
theorem agg5 : isAggT Try.prog 5 = false := by kernel_rfl
theorem ok5 : okT Try.prog 5 = true := by kernel_rfl
theorem zero6 : zeroE Try.prog 6 = some (.int .u8 0) := by kernel_rfl
theorem zeros6 : zerosOf Try.prog 6 = some [.int .u8 0] := by kernel_rfl
theorem cells6 : Try.prog.cellsOf 6 = 1 := by kernel_rfl
theorem bytes6 : Try.prog.bytesOf 6 = 1 := by kernel_rfl
theorem agg6 : isAggT Try.prog 6 = false := by kernel_rfl
theorem ok6 : okT Try.prog 6 = true := by kernel_rfl
theorem zero7 : zeroE Try.prog 7 = some (.agg [.int .i64 0, .int .i64 0, .bool false, .int .u8 0]) := by kernel_rfl
theorem zeros7 : zerosOf Try.prog 7 = some [.int .i64 0, .int .i64 0, .bool false, .int .u8 0] := by kernel_rfl
theorem cells7 : Try.prog.cellsOf 7 = 4 := by kernel_rfl
theorem bytes7 : Try.prog.bytesOf 7 = 24 := by kernel_rfl
theorem agg7 : isAggT Try.prog 7 = true := by kernel_rfl
theorem ok7 : okT Try.prog 7 = true := by kernel_rfl
theorem zero8 : zeroE Try.prog 8 = some (.agg [.int .i64 0, .int .i64 0, .bool false, .int .u8 0]) := by kernel_rfl
theorem zeros8 : zerosOf Try.prog 8 = some [.int .i64 0, .int .i64 0, .bool false, .int .u8 0] := by kernel_rfl
theorem cells8 : Try.prog.cellsOf 8 = 4 := by kernel_rfl
theorem bytes8 : Try.prog.bytesOf 8 = 24 := by kernel_rfl
theorem agg8 : isAggT Try.prog 8 = true := by kernel_rfl
theorem ok8 : okT Try.prog 8 = true := by kernel_rfl
theorem zero9 : zeroE Try.prog 9 = some (.str []) := by kernel_rfl
theorem zeros9 : zerosOf Try.prog 9 = some [.str []] := by kernel_rfl
theorem cells9 : Try.prog.cellsOf 9 = 1 := by kernel_rfl
theorem bytes9 : Try.prog.bytesOf 9 = 16 := by kernel_rfl
theorem agg9 : isAggT Try.prog 9 = false := by kernel_rfl
theorem ok9 : okT Try.prog 9 = true := by kernel_rfl
theorem zero10 : zeroE Try.prog 10 = some (.str []) := by kernel_rfl
theorem zeros10 : zerosOf Try.prog 10 = some [.str []] := by kernel_rfl
theorem cells10 : Try.prog.cellsOf 10 = 1 := by kernel_rfl
theorem bytes10 : Try.prog.bytesOf 10 = 16 := by kernel_rfl
theorem agg10 : isAggT Try.prog 10 = false := by kernel_rfl
theorem ok10 : okT Try.prog 10 = true := by kernel_rfl
theorem zero11 : zeroE Try.prog 11 = some (.str []) := by kernel_rfl
theorem zeros11 : zerosOf Try.prog 11 = some [.str []] := by kernel_rfl
theorem cells11 : Try.prog.cellsOf 11 = 1 := by kernel_rfl
theorem bytes11 : Try.prog.bytesOf 11 = 16 := by kernel_rfl
theorem agg11 : isAggT Try.prog 11 = false := by kernel_rfl
theorem ok11 : okT Try.prog 11 = true := by kernel_rfl
theorem zero12 : zeroE Try.prog 12 = some (.int .u64 0) := by kernel_rfl
theorem zeros12 : zerosOf Try.prog 12 = some [.int .u64 0] := by kernel_rfl
theorem cells12 : Try.prog.cellsOf 12 = 1 := by kernel_rfl
theorem bytes12 : Try.prog.bytesOf 12 = 8 := by kernel_rfl
theorem agg12 : isAggT Try.prog 12 = false := by kernel_rfl
theorem ok12 : okT Try.prog 12 = true := by kernel_rfl
theorem zero13 : zeroE Try.prog 13 = some (.agg [.str [], .int .u64 0]) := by kernel_rfl
theorem zeros13 : zerosOf Try.prog 13 = some [.str [], .int .u64 0] := by kernel_rfl
theorem cells13 : Try.prog.cellsOf 13 = 2 := by kernel_rfl
theorem bytes13 : Try.prog.bytesOf 13 = 24 := by kernel_rfl
theorem agg13 : isAggT Try.prog 13 = true := by kernel_rfl
theorem ok13 : okT Try.prog 13 = true := by kernel_rfl
theorem zero14 : zeroE Try.prog 14 = some (.agg [.str [], .int .u64 0]) := by kernel_rfl
theorem zeros14 : zerosOf Try.prog 14 = some [.str [], .int .u64 0] := by kernel_rfl
theorem cells14 : Try.prog.cellsOf 14 = 2 := by kernel_rfl
theorem bytes14 : Try.prog.bytesOf 14 = 24 := by kernel_rfl
theorem agg14 : isAggT Try.prog 14 = true := by kernel_rfl
theorem ok14 : okT Try.prog 14 = true := by kernel_rfl
theorem zero15 : zeroE Try.prog 15 = some (.opq (.pointer none)) := by kernel_rfl
theorem zeros15 : zerosOf Try.prog 15 = some [.opq (.pointer none)] := by kernel_rfl
theorem cells15 : Try.prog.cellsOf 15 = 1 := by kernel_rfl
theorem bytes15 : Try.prog.bytesOf 15 = 8 := by kernel_rfl
theorem agg15 : isAggT Try.prog 15 = false := by kernel_rfl
theorem ok15 : okT Try.prog 15 = true := by kernel_rfl
theorem zero16 : zeroE Try.prog 16 = some (.opq (.pointer none)) := by kernel_rfl
theorem zeros16 : zerosOf Try.prog 16 = some [.opq (.pointer none)] := by kernel_rfl
theorem cells16 : Try.prog.cellsOf 16 = 1 := by kernel_rfl
theorem bytes16 : Try.prog.bytesOf 16 = 8 := by kernel_rfl
theorem agg16 : isAggT Try.prog 16 = false := by kernel_rfl
theorem ok16 : okT Try.prog 16 = true := by kernel_rfl
theorem zero17 : zeroE Try.prog 17 = some (.opq (.pointer none)) := by kernel_rfl
theorem zeros17 : zerosOf Try.prog 17 = some [.opq (.pointer none)] := by kernel_rfl
theorem cells17 : Try.prog.cellsOf 17 = 1 := by kernel_rfl
theorem bytes17 : Try.prog.bytesOf 17 = 8 := by kernel_rfl
theorem agg17 : isAggT Try.prog 17 = false := by kernel_rfl
theorem ok17 : okT Try.prog 17 = true := by kernel_rfl
theorem zero18 : zeroE Try.prog 18 = some (.agg [.opq (.pointer none)]) := by kernel_rfl
theorem zeros18 : zerosOf Try.prog 18 = some [.opq (.pointer none)] := by kernel_rfl
theorem cells18 : Try.prog.cellsOf 18 = 1 := by kernel_rfl
theorem bytes18 : Try.prog.bytesOf 18 = 8 := by kernel_rfl
theorem agg18 : isAggT Try.prog 18 = true := by kernel_rfl
theorem ok18 : okT Try.prog 18 = true := by kernel_rfl
theorem zero19 : zeroE Try.prog 19 = some (.agg [.opq (.pointer none)]) := by kernel_rfl
theorem zeros19 : zerosOf Try.prog 19 = some [.opq (.pointer none)] := by kernel_rfl
theorem cells19 : Try.prog.cellsOf 19 = 1 := by kernel_rfl
theorem bytes19 : Try.prog.bytesOf 19 = 8 := by kernel_rfl
theorem agg19 : isAggT Try.prog 19 = true := by kernel_rfl
theorem ok19 : okT Try.prog 19 = true := by kernel_rfl
theorem zero20 : zeroE Try.prog 20 = some (.opq .nilIface) := by kernel_rfl
theorem zeros20 : zerosOf Try.prog 20 = some [.opq .nilIface] := by kernel_rfl
theorem cells20 : Try.prog.cellsOf 20 = 1 := by kernel_rfl
theorem bytes20 : Try.prog.bytesOf 20 = 16 := by kernel_rfl
theorem agg20 : isAggT Try.prog 20 = false := by kernel_rfl
theorem ok20 : okT Try.prog 20 = true := by kernel_rfl
theorem zero21 : zeroE Try.prog 21 = some (.int .i32 0) := by kernel_rfl
theorem zeros21 : zerosOf Try.prog 21 = some [.int .i32 0] := by kernel_rfl
theorem cells21 : Try.prog.cellsOf 21 = 1 := by kernel_rfl
theorem bytes21 : Try.prog.bytesOf 21 = 4 := by kernel_rfl
theorem agg21 : isAggT Try.prog 21 = false := by kernel_rfl
theorem ok21 : okT Try.prog 21 = true := by kernel_rfl
theorem zero22 : zeroE Try.prog 22 = some (.agg [.int .i64 0, .int .i64 0]) := by kernel_rfl
theorem zeros22 : zerosOf Try.prog 22 = some [.int .i64 0, .int .i64 0] := by kernel_rfl
theorem cells22 : Try.prog.cellsOf 22 = 2 := by kernel_rfl
theorem bytes22 : Try.prog.bytesOf 22 = 16 := by kernel_rfl
theorem agg22 : isAggT Try.prog 22 = true := by kernel_rfl
theorem ok22 : okT Try.prog 22 = true := by kernel_rfl
theorem zero23 : zeroE Try.prog 23 = some (.agg [.int .i64 0, .int .i64 0]) := by kernel_rfl
theorem zeros23 : zerosOf Try.prog 23 = some [.int .i64 0, .int .i64 0] := by kernel_rfl
theorem cells23 : Try.prog.cellsOf 23 = 2 := by kernel_rfl
theorem bytes23 : Try.prog.bytesOf 23 = 16 := by kernel_rfl
theorem agg23 : isAggT Try.prog 23 = true := by kernel_rfl
theorem ok23 : okT Try.prog 23 = true := by kernel_rfl
theorem zero24 : zeroE Try.prog 24 = some (.opq .nilFunc) := by kernel_rfl
theorem zeros24 : zerosOf Try.prog 24 = some [.opq .nilFunc] := by kernel_rfl
theorem cells24 : Try.prog.cellsOf 24 = 1 := by kernel_rfl
theorem bytes24 : Try.prog.bytesOf 24 = 8 := by kernel_rfl
theorem agg24 : isAggT Try.prog 24 = false := by kernel_rfl
theorem ok24 : okT Try.prog 24 = true := by kernel_rfl
theorem zero25 : zeroE Try.prog 25 = some (.int .u32 0) := by kernel_rfl
theorem zeros25 : zerosOf Try.prog 25 = some [.int .u32 0] := by kernel_rfl
theorem cells25 : Try.prog.cellsOf 25 = 1 := by kernel_rfl
theorem bytes25 : Try.prog.bytesOf 25 = 4 := by kernel_rfl
theorem agg25 : isAggT Try.prog 25 = false := by kernel_rfl
theorem ok25 : okT Try.prog 25 = true := by kernel_rfl
theorem zero26 : zeroE Try.prog 26 = some (.agg [.int .i64 0, .int .i64 0, .int .i64 0, .int .i64 0, .str [], .str [], .int .i64 0, .int .u32 0, .bool false]) := by kernel_rfl
theorem zeros26 : zerosOf Try.prog 26 = some [.int .i64 0, .int .i64 0, .int .i64 0, .int .i64 0, .str [], .str [], .int .i64 0, .int .u32 0, .bool false] := by kernel_rfl
theorem cells26 : Try.prog.cellsOf 26 = 9 := by kernel_rfl
theorem bytes26 : Try.prog.bytesOf 26 = 80 := by kernel_rfl
theorem agg26 : isAggT Try.prog 26 = true := by kernel_rfl
theorem ok26 : okT Try.prog 26 = true := by kernel_rfl
theorem zero27 : zeroE Try.prog 27 = some (.agg [.int .i64 0, .int .i64 0, .int .i64 0, .int .i64 0, .str [], .str [], .int .i64 0, .int .u32 0, .bool false]) := by kernel_rfl
theorem zeros27 : zerosOf Try.prog 27 = some [.int .i64 0, .int .i64 0, .int .i64 0, .int .i64 0, .str [], .str [], .int .i64 0, .int .u32 0, .bool false] := by kernel_rfl
theorem cells27 : Try.prog.cellsOf 27 = 9 := by kernel_rfl
theorem bytes27 : Try.prog.bytesOf 27 = 80 := by kernel_rfl
theorem agg27 : isAggT Try.prog 27 = true := by kernel_rfl
theorem ok27 : okT Try.prog 27 = true := by kernel_rfl
theorem zero28 : zeroE Try.prog 28 = some (.opq .nilFunc) := by kernel_rfl
theorem zeros28 : zerosOf Try.prog 28 = some [.opq .nilFunc] := by kernel_rfl
theorem cells28 : Try.prog.cellsOf 28 = 1 := by kernel_rfl
theorem bytes28 : Try.prog.bytesOf 28 = 8 := by kernel_rfl
theorem agg28 : isAggT Try.prog 28 = false := by kernel_rfl
theorem ok28 : okT Try.prog 28 = true := by kernel_rfl
theorem zero29 : zeroE Try.prog 29 = some (.opq .nilFunc) := by kernel_rfl
theorem zeros29 : zerosOf Try.prog 29 = some [.opq .nilFunc] := by kernel_rfl
theorem cells29 : Try.prog.cellsOf 29 = 1 := by kernel_rfl
theorem bytes29 : Try.prog.bytesOf 29 = 8 := by kernel_rfl
theorem agg29 : isAggT Try.prog 29 = false := by kernel_rfl
theorem ok29 : okT Try.prog 29 = true := by kernel_rfl
theorem zero30 : zeroE Try.prog 30 = some (.opq .nilFunc) := by kernel_rfl
theorem zeros30 : zerosOf Try.prog 30 = some [.opq .nilFunc] := by kernel_rfl
theorem cells30 : Try.prog.cellsOf 30 = 1 := by kernel_rfl
theorem bytes30 : Try.prog.bytesOf 30 = 8 := by kernel_rfl
theorem agg30 : isAggT Try.prog 30 = false := by kernel_rfl
theorem ok30 : okT Try.prog 30 = true := by kernel_rfl
theorem zero31 : zeroE Try.prog 31 = some (.opq .nilFunc) := by kernel_rfl
theorem zeros31 : zerosOf Try.prog 31 = some [.opq .nilFunc] := by kernel_rfl
theorem cells31 : Try.prog.cellsOf 31 = 1 := by kernel_rfl
theorem bytes31 : Try.prog.bytesOf 31 = 8 := by kernel_rfl
theorem agg31 : isAggT Try.prog 31 = false := by kernel_rfl
theorem ok31 : okT Try.prog 31 = true := by kernel_rfl
theorem zero32 : zeroE Try.prog 32 = some (.opq .nilFunc) := by kernel_rfl
theorem zeros32 : zerosOf Try.prog 32 = some [.opq .nilFunc] := by kernel_rfl
theorem cells32 : Try.prog.cellsOf 32 = 1 := by kernel_rfl
theorem bytes32 : Try.prog.bytesOf 32 = 8 := by kernel_rfl
theorem agg32 : isAggT Try.prog 32 = false := by kernel_rfl
theorem ok32 : okT Try.prog 32 = true := by kernel_rfl
theorem zero33 : zeroE Try.prog 33 = some (.sl []) := by kernel_rfl
theorem zeros33 : zerosOf Try.prog 33 = some [.sl []] := by kernel_rfl
theorem cells33 : Try.prog.cellsOf 33 = 1 := by kernel_rfl
theorem bytes33 : Try.prog.bytesOf 33 = 24 := by kernel_rfl
theorem agg33 : isAggT Try.prog 33 = false := by kernel_rfl
theorem ok33 : okT Try.prog 33 = true := by kernel_rfl
theorem cells34 : Try.prog.cellsOf 34 = 1 := by kernel_rfl
theorem bytes34 : Try.prog.bytesOf 34 = 0 := by kernel_rfl
theorem agg34 : isAggT Try.prog 34 = false := by kernel_rfl
theorem ok34 : okT Try.prog 34 = true := by kernel_rfl
theorem zero35 : zeroE Try.prog 35 = some (.opq .nilFunc) := by kernel_rfl
theorem zeros35 : zerosOf Try.prog 35 = some [.opq .nilFunc] := by kernel_rfl
theorem cells35 : Try.prog.cellsOf 35 = 1 := by kernel_rfl
theorem bytes35 : Try.prog.bytesOf 35 = 8 := by kernel_rfl
theorem agg35 : isAggT Try.prog 35 = false := by kernel_rfl
theorem ok35 : okT Try.prog 35 = true := by kernel_rfl
theorem zero36 : zeroE Try.prog 36 = some (.opq .nilFunc) := by kernel_rfl
theorem zeros36 : zerosOf Try.prog 36 = some [.opq .nilFunc] := by kernel_rfl
theorem cells36 : Try.prog.cellsOf 36 = 1 := by kernel_rfl
theorem bytes36 : Try.prog.bytesOf 36 = 8 := by kernel_rfl
theorem agg36 : isAggT Try.prog 36 = false := by kernel_rfl
theorem ok36 : okT Try.prog 36 = true := by kernel_rfl
theorem zero37 : zeroE Try.prog 37 = some (.opq .nilFunc) := by kernel_rfl
theorem zeros37 : zerosOf Try.prog 37 = some [.opq .nilFunc] := by kernel_rfl
theorem cells37 : Try.prog.cellsOf 37 = 1 := by kernel_rfl
theorem bytes37 : Try.prog.bytesOf 37 = 8 := by kernel_rfl
theorem agg37 : isAggT Try.prog 37 = false := by kernel_rfl
theorem ok37 : okT Try.prog 37 = true := by kernel_rfl
theorem cells38 : Try.prog.cellsOf 38 = 1 := by kernel_rfl
theorem bytes38 : Try.prog.bytesOf 38 = 0 := by kernel_rfl
theorem agg38 : isAggT Try.prog 38 = false := by kernel_rfl
theorem ok38 : okT Try.prog 38 = true := by kernel_rfl
theorem zero39 : zeroE Try.prog 39 = some (.opq .nilFunc) := by kernel_rfl
theorem zeros39 : zerosOf Try.prog 39 = some [.opq .nilFunc] := by kernel_rfl
theorem cells39 : Try.prog.cellsOf 39 = 1 := by kernel_rfl
theorem bytes39 : Try.prog.bytesOf 39 = 8 := by kernel_rfl
theorem agg39 : isAggT Try.prog 39 = false := by kernel_rfl
theorem ok39 : okT Try.prog 39 = true := by kernel_rfl
theorem zero40 : zeroE Try.prog 40 = some (.opq .nilFunc) := by kernel_rfl
theorem zeros40 : zerosOf Try.prog 40 = some [.opq .nilFunc] := by kernel_rfl
theorem cells40 : Try.prog.cellsOf 40 = 1 := by kernel_rfl
theorem bytes40 : Try.prog.bytesOf 40 = 8 := by kernel_rfl
theorem agg40 : isAggT Try.prog 40 = false := by kernel_rfl
theorem ok40 : okT Try.prog 40 = true := by kernel_rfl
theorem zero41 : zeroE Try.prog 41 = some (.agg [.int .i64 0, .sl []]) := by kernel_rfl
theorem zeros41 : zerosOf Try.prog 41 = some [.int .i64 0, .sl []] := by kernel_rfl
theorem cells41 : Try.prog.cellsOf 41 = 2 := by kernel_rfl
theorem bytes41 : Try.prog.bytesOf 41 = 32 := by kernel_rfl
theorem agg41 : isAggT Try.prog 41 = true := by kernel_rfl
theorem ok41 : okT Try.prog 41 = true := by kernel_rfl
theorem zero42 : zeroE Try.prog 42 = some (.agg [.int .i64 0, .sl []]) := by kernel_rfl
theorem zeros42 : zerosOf Try.prog 42 = some [.int .i64 0, .sl []] := by kernel_rfl
theorem cells42 : Try.prog.cellsOf 42 = 2 := by kernel_rfl
theorem bytes42 : Try.prog.bytesOf 42 = 32 := by kernel_rfl
theorem agg42 : isAggT Try.prog 42 = true := by kernel_rfl
theorem ok42 : okT Try.prog 42 = true := by kernel_rfl
theorem cells43 : Try.prog.cellsOf 43 = 1 := by kernel_rfl
theorem bytes43 : Try.prog.bytesOf 43 = 0 := by kernel_rfl
theorem agg43 : isAggT Try.prog 43 = false := by kernel_rfl
theorem ok43 : okT Try.prog 43 = true := by kernel_rfl
theorem zero44 : zeroE Try.prog 44 = some (.opq .nilFunc) := by kernel_rfl
theorem zeros44 : zerosOf Try.prog 44 = some [.opq .nilFunc] := by kernel_rfl
theorem cells44 : Try.prog.cellsOf 44 = 1 := by kernel_rfl
theorem bytes44 : Try.prog.bytesOf 44 = 8 := by kernel_rfl
theorem agg44 : isAggT Try.prog 44 = false := by kernel_rfl
theorem ok44 : okT Try.prog 44 = true := by kernel_rfl
theorem zero45 : zeroE Try.prog 45 = some (.opq .nilFunc) := by kernel_rfl
theorem zeros45 : zerosOf Try.prog 45 = some [.opq .nilFunc] := by kernel_rfl
theorem cells45 : Try.prog.cellsOf 45 = 1 := by kernel_rfl
theorem bytes45 : Try.prog.bytesOf 45 = 8 := by kernel_rfl
theorem agg45 : isAggT Try.prog 45 = false := by kernel_rfl
theorem ok45 : okT Try.prog 45 = true := by kernel_rfl
theorem zero46 : zeroE Try.prog 46 = some (.opq .nilFunc) := by kernel_rfl
theorem zeros46 : zerosOf Try.prog 46 = some [.opq .nilFunc] := by kernel_rfl
theorem cells46 : Try.prog.cellsOf 46 = 1 := by kernel_rfl
theorem bytes46 : Try.prog.bytesOf 46 = 8 := by kernel_rfl
theorem agg46 : isAggT Try.prog 46 = false := by kernel_rfl
theorem ok46 : okT Try.prog 46 = true := by kernel_rfl
theorem zero47 : zeroE Try.prog 47 = some (.opq .nilFunc) := by kernel_rfl
theorem zeros47 : zerosOf Try.prog 47 = some [.opq .nilFunc] := by kernel_rfl
theorem cells47 : Try.prog.cellsOf 47 = 1 := by kernel_rfl
theorem bytes47 : Try.prog.bytesOf 47 = 8 := by kernel_rfl
theorem agg47 : isAggT Try.prog 47 = false := by kernel_rfl
theorem ok47 : okT Try.prog 47 = true := by kernel_rfl
theorem zero48 : zeroE Try.prog 48 = some (.opq .nilFunc) := by kernel_rfl
theorem zeros48 : zerosOf Try.prog 48 = some [.opq .nilFunc] := by kernel_rfl
theorem cells48 : Try.prog.cellsOf 48 = 1 := by kernel_rfl
theorem bytes48 : Try.prog.bytesOf 48 = 8 := by kernel_rfl
theorem agg48 : isAggT Try.prog 48 = false := by kernel_rfl
theorem ok48 : okT Try.prog 48 = true := by kernel_rfl
theorem zero49 : zeroE Try.prog 49 = some (.opq .nilFunc) := by kernel_rfl
theorem zeros49 : zerosOf Try.prog 49 = some [.opq .nilFunc] := by kernel_rfl
theorem cells49 : Try.prog.cellsOf 49 = 1 := by kernel_rfl
theorem bytes49 : Try.prog.bytesOf 49 = 8 := by kernel_rfl
theorem agg49 : isAggT Try.prog 49 = false := by kernel_rfl
theorem ok49 : okT Try.prog 49 = true := by kernel_rfl
theorem zero50 : zeroE Try.prog 50 = some (.agg [.opq (.pointer none), .opq (.pointer none), .opq (.pointer none), .str []]) := by kernel_rfl
theorem zeros50 : zerosOf Try.prog 50 = some [.opq (.pointer none), .opq (.pointer none), .opq (.pointer none), .str []] := by kernel_rfl
theorem cells50 : Try.prog.cellsOf 50 = 4 := by kernel_rfl
theorem bytes50 : Try.prog.bytesOf 50 = 40 := by kernel_rfl
theorem agg50 : isAggT Try.prog 50 = true := by kernel_rfl
theorem ok50 : okT Try.prog 50 = true := by kernel_rfl
theorem zero51 : zeroE Try.prog 51 = some (.agg [.opq (.pointer none), .opq (.pointer none), .opq (.pointer none), .str []]) := by kernel_rfl
theorem zeros51 : zerosOf Try.prog 51 = some [.opq (.pointer none), .opq (.pointer none), .opq (.pointer none), .str []] := by kernel_rfl
theorem cells51 : Try.prog.cellsOf 51 = 4 := by kernel_rfl
theorem bytes51 : Try.prog.bytesOf 51 = 40 := by kernel_rfl
theorem agg51 : isAggT Try.prog 51 = true := by kernel_rfl
theorem ok51 : okT Try.prog 51 = true := by kernel_rfl
theorem zero52 : zeroE Try.prog 52 = some (.agg []) := by kernel_rfl
theorem zeros52 : zerosOf Try.prog 52 = some [] := by kernel_rfl
theorem zero53 : zeroE Try.prog 53 = some (.agg []) := by kernel_rfl
theorem zeros53 : zerosOf Try.prog 53 = some [] := by kernel_rfl
theorem zero54 : zeroE Try.prog 54 = some (.agg []) := by kernel_rfl
theorem zeros54 : zerosOf Try.prog 54 = some [] := by kernel_rfl
theorem zero55 : zeroE Try.prog 55 = some (.opq .nilFunc) := by kernel_rfl
theorem zeros55 : zerosOf Try.prog 55 = some [.opq .nilFunc] := by kernel_rfl
theorem cells55 : Try.prog.cellsOf 55 = 1 := by kernel_rfl
theorem bytes55 : Try.prog.bytesOf 55 = 8 := by kernel_rfl
theorem agg55 : isAggT Try.prog 55 = false := by kernel_rfl
theorem ok55 : okT Try.prog 55 = true := by kernel_rfl
theorem zero56 : zeroE Try.prog 56 = some (.int .u8 0) := by kernel_rfl
theorem zeros56 : zerosOf Try.prog 56 = some [.int .u8 0] := by kernel_rfl
theorem cells56 : Try.prog.cellsOf 56 = 1 := by kernel_rfl
theorem bytes56 : Try.prog.bytesOf 56 = 1 := by kernel_rfl
theorem agg56 : isAggT Try.prog 56 = false := by kernel_rfl
theorem ok56 : okT Try.prog 56 = true := by kernel_rfl
theorem zero57 : zeroE Try.prog 57 = some (.int .u8 0) := by kernel_rfl
theorem zeros57 : zerosOf Try.prog 57 = some [.int .u8 0] := by kernel_rfl
theorem cells57 : Try.prog.cellsOf 57 = 1 := by kernel_rfl
theorem bytes57 : Try.prog.bytesOf 57 = 1 := by kernel_rfl
theorem agg57 : isAggT Try.prog 57 = false := by kernel_rfl
theorem ok57 : okT Try.prog 57 = true := by kernel_rfl
theorem zero58 : zeroE Try.prog 58 = some (.opq .nilFunc) := by kernel_rfl
theorem zeros58 : zerosOf Try.prog 58 = some [.opq .nilFunc] := by kernel_rfl
theorem cells58 : Try.prog.cellsOf 58 = 1 := by kernel_rfl
theorem bytes58 : Try.prog.bytesOf 58 = 8 := by kernel_rfl
theorem agg58 : isAggT Try.prog 58 = false := by kernel_rfl
theorem ok58 : okT Try.prog 58 = true := by kernel_rfl
theorem zero59 : zeroE Try.prog 59 = some (.opq (.pointer none)) := by kernel_rfl
theorem zeros59 : zerosOf Try.prog 59 = some [.opq (.pointer none)] := by kernel_rfl
theorem cells59 : Try.prog.cellsOf 59 = 1 := by kernel_rfl
theorem bytes59 : Try.prog.bytesOf 59 = 8 := by kernel_rfl
theorem agg59 : isAggT Try.prog 59 = false := by kernel_rfl
theorem ok59 : okT Try.prog 59 = true := by kernel_rfl
theorem zero60 : zeroE Try.prog 60 = some (.int .i32 0) := by kernel_rfl
theorem zeros60 : zerosOf Try.prog 60 = some [.int .i32 0] := by kernel_rfl
theorem cells60 : Try.prog.cellsOf 60 = 1 := by kernel_rfl
theorem bytes60 : Try.prog.bytesOf 60 = 4 := by kernel_rfl
theorem agg60 : isAggT Try.prog 60 = false := by kernel_rfl
theorem ok60 : okT Try.prog 60 = true := by kernel_rfl
theorem zero61 : zeroE Try.prog 61 = some (.int .i32 0) := by kernel_rfl
theorem zeros61 : zerosOf Try.prog 61 = some [.int .i32 0] := by kernel_rfl
theorem cells61 : Try.prog.cellsOf 61 = 1 := by kernel_rfl
theorem bytes61 : Try.prog.bytesOf 61 = 4 := by kernel_rfl
theorem agg61 : isAggT Try.prog 61 = false := by kernel_rfl
theorem ok61 : okT Try.prog 61 = true := by kernel_rfl
theorem zero62 : zeroE Try.prog 62 = some (.agg [.int .u64 0, .int .u64 0, .int .u32 0, .int .u8 0, .int .u8 0, .int .u8 0, .int .u8 0, .opq .nilFunc, .opq (.pointer none), .int .i32 0, .int .i32 0]) := by kernel_rfl
theorem zeros62 : zerosOf Try.prog 62 = some [.int .u64 0, .int .u64 0, .int .u32 0, .int .u8 0, .int .u8 0, .int .u8 0, .int .u8 0, .opq .nilFunc, .opq (.pointer none), .int .i32 0, .int .i32 0] := by kernel_rfl
theorem cells62 : Try.prog.cellsOf 62 = 11 := by kernel_rfl
theorem bytes62 : Try.prog.bytesOf 62 = 48 := by kernel_rfl
theorem agg62 : isAggT Try.prog 62 = true := by kernel_rfl
theorem ok62 : okT Try.prog 62 = true := by kernel_rfl
theorem zero63 : zeroE Try.prog 63 = some (.agg [.int .u64 0, .int .u64 0, .int .u32 0, .int .u8 0, .int .u8 0, .int .u8 0, .int .u8 0, .opq .nilFunc, .opq (.pointer none), .int .i32 0, .int .i32 0]) := by kernel_rfl
theorem zeros63 : zerosOf Try.prog 63 = some [.int .u64 0, .int .u64 0, .int .u32 0, .int .u8 0, .int .u8 0, .int .u8 0, .int .u8 0, .opq .nilFunc, .opq (.pointer none), .int .i32 0, .int .i32 0] := by kernel_rfl
theorem cells63 : Try.prog.cellsOf 63 = 11 := by kernel_rfl
theorem bytes63 : Try.prog.bytesOf 63 = 48 := by kernel_rfl
theorem agg63 : isAggT Try.prog 63 = true := by kernel_rfl
theorem ok63 : okT Try.prog 63 = true := by kernel_rfl
theorem zero64 : zeroE Try.prog 64 = some (.opq (.pointer none)) := by kernel_rfl
theorem zeros64 : zerosOf Try.prog 64 = some [.opq (.pointer none)] := by kernel_rfl
theorem cells64 : Try.prog.cellsOf 64 = 1 := by kernel_rfl
theorem bytes64 : Try.prog.bytesOf 64 = 8 := by kernel_rfl
theorem agg64 : isAggT Try.prog 64 = false := by kernel_rfl
theorem ok64 : okT Try.prog 64 = true := by kernel_rfl
theorem place23 : placeV Try.prog 23 = some (fun i => ([(0, 1), (1, 1)] : List (Nat × Nat))[i]?) := placeV_of Try.underlying23 (by kernel_rfl) (by kernel_rfl)
theorem place27 : placeV Try.prog 27 = some (fun i => ([(0, 1), (1, 1), (2, 1), (3, 1), (4, 1), (5, 1), (6, 1), (7, 1), (8, 1)] : List (Nat × Nat))[i]?) := placeV_of Try.underlying27 (by kernel_rfl) (by kernel_rfl)
theorem place42 : placeV Try.prog 42 = some (fun i => ([(0, 1), (1, 1)] : List (Nat × Nat))[i]?) := placeV_of Try.underlying42 (by kernel_rfl) (by kernel_rfl)
attribute [go_sem] cells0 bytes0 agg0 ok0 zero1 zeros1 cells1 bytes1 agg1 ok1 zero2 zeros2 cells2 bytes2 agg2 ok2 zero3 zeros3 cells3 bytes3 agg3 ok3 zero4 zeros4 cells4 bytes4 agg4 ok4 zero5 zeros5 cells5 bytes5 agg5 ok5 zero6 zeros6 cells6 bytes6 agg6 ok6 zero7 zeros7 cells7 bytes7 agg7 ok7 zero8 zeros8 cells8 bytes8 agg8 ok8 zero9 zeros9 cells9 bytes9 agg9 ok9 zero10 zeros10 cells10 bytes10 agg10 ok10 zero11 zeros11 cells11 bytes11 agg11 ok11 zero12 zeros12 cells12 bytes12 agg12 ok12 zero13 zeros13 cells13 bytes13 agg13 ok13 zero14 zeros14 cells14 bytes14 agg14 ok14 zero15 zeros15 cells15 bytes15 agg15 ok15 zero16 zeros16 cells16 bytes16 agg16 ok16 zero17 zeros17 cells17 bytes17 agg17 ok17 zero18 zeros18 cells18 bytes18 agg18 ok18 zero19 zeros19 cells19 bytes19 agg19 ok19 zero20 zeros20 cells20 bytes20 agg20 ok20 zero21 zeros21 cells21 bytes21 agg21 ok21 zero22 zeros22 cells22 bytes22 agg22 ok22 zero23 zeros23 cells23 bytes23 agg23 ok23 zero24 zeros24 cells24 bytes24 agg24 ok24 zero25 zeros25 cells25 bytes25 agg25 ok25 zero26 zeros26 cells26 bytes26 agg26 ok26 zero27 zeros27 cells27 bytes27 agg27 ok27 zero28 zeros28 cells28 bytes28 agg28 ok28 zero29 zeros29 cells29 bytes29 agg29 ok29 zero30 zeros30 cells30 bytes30 agg30 ok30 zero31 zeros31 cells31 bytes31 agg31 ok31 zero32 zeros32 cells32 bytes32 agg32 ok32 zero33 zeros33 cells33 bytes33 agg33 ok33 cells34 bytes34 agg34 ok34 zero35 zeros35 cells35 bytes35 agg35 ok35 zero36 zeros36 cells36 bytes36 agg36 ok36 zero37 zeros37 cells37 bytes37 agg37 ok37 cells38 bytes38 agg38 ok38 zero39 zeros39 cells39 bytes39 agg39 ok39 zero40 zeros40 cells40 bytes40 agg40 ok40 zero41 zeros41 cells41 bytes41 agg41 ok41 zero42 zeros42 cells42 bytes42 agg42 ok42 cells43 bytes43 agg43 ok43 zero44 zeros44 cells44 bytes44 agg44 ok44 zero45 zeros45 cells45 bytes45 agg45 ok45 zero46 zeros46 cells46 bytes46 agg46 ok46 zero47 zeros47 cells47 bytes47 agg47 ok47 zero48 zeros48 cells48 bytes48 agg48 ok48 zero49 zeros49 cells49 bytes49 agg49 ok49 zero50 zeros50 cells50 bytes50 agg50 ok50 zero51 zeros51 cells51 bytes51 agg51 ok51 zero52 zeros52 zero53 zeros53 zero54 zeros54 zero55 zeros55 cells55 bytes55 agg55 ok55 zero56 zeros56 cells56 bytes56 agg56 ok56 zero57 zeros57 cells57 bytes57 agg57 ok57 zero58 zeros58 cells58 bytes58 agg58 ok58 zero59 zeros59 cells59 bytes59 agg59 ok59 zero60 zeros60 cells60 bytes60 agg60 ok60 zero61 zeros61 cells61 bytes61 agg61 ok61 zero62 zeros62 cells62 bytes62 agg62 ok62 zero63 zeros63 cells63 bytes63 agg63 ok63 zero64 zeros64 cells64 bytes64 agg64 ok64 place23 place27 place42
theorem eqT23 : env.eqT 23 = some [.int .i64, .int .i64] := rfl
attribute [go_sem] eqT23
theorem eqOk23 : EqOk Try.prog 23 [.int .i64, .int .i64] := eqOk_of (by kernel_rfl) (by kernel_rfl) (by kernel_rfl) (by kernel_rfl)
theorem envEq : EnvEq Try.prog env := ⟨fun t ks h => lk_all (lk := lk1) (p := fun t ks => EqOk Try.prog t ks) (fun _ => rfl) (fun _ _ _ _ => rfl) eqT (by intro q hq; simp only [eqT, List.mem_cons, List.not_mem_nil, or_false] at hq; rcases hq with rfl <;> first | exact eqOk23) t ks h⟩
theorem envOk : EnvOk Try.prog env := ⟨envEq, fun g hh h => by cases h⟩
theorem envLoc : ∀ g hh, env.intr g = some hh → ∀ args nk, Local fun S => hh args S nk := fun g hh h => by cases h
theorem allFuncs {p : Nat → Func → Bool} (h : ((List.range Try.prog.funcs.size).all fun g => match Try.prog.funcs[g]? with | some fn => p g fn | none => true) = true) (g : Nat) (fn : Func) (hf : Try.prog.funcs[g]? = some fn) : p g fn = true := by
  have h1 := List.all_eq_true.1 h g (List.mem_range.2 (Array.getElem?_eq_some_iff.1 hf).1)
  rw [hf] at h1
  exact h1
theorem envCode : ∀ (g : Nat) fn c, Try.prog.funcs[g]? = some fn → fn.body = some c → codeOk (env.reg g) c = true := by
  intro g fn c hf hb
  have := allFuncs (p := fun g fn => match fn.body with | some c => codeOk (env.reg g) c | none => true) (by kernel_rfl) g fn hf
  rw [hb] at this
  exact this
theorem envName : ∀ (g : Nat) fn, Try.prog.funcs[g]? = some fn → fn.name ≠ "runtime.NumGoroutine" := by
  intro g fn hf
  have := allFuncs (p := fun g fn => decide (fn.name ≠ "runtime.NumGoroutine")) (by kernel_rfl) g fn hf
  simpa using this
theorem envAll : EnvAll Try.prog env := ⟨envOk, envLoc, by kernel_rfl, envCode, envName⟩
theorem own : ownKnob Try.prog.godebug = none := by kernel_rfl
theorem laidOut : laidOutB Try.prog = true := by kernel_rfl
end Go.Proofs.Ytkjoolmkgpmlfaa
