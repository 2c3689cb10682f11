/- YticdhmcbooabaaaE: what is told of the program beside its text. No claim. -/
import Derived.Test.Yticdhmcbooabaaa28
import Derived.Test.YticdhmcbooabaaaRows
set_option linter.unusedVariables false
set_option linter.unusedSimpArgs false
set_option maxRecDepth 100000
namespace Go.Proofs.Yticdhmcbooabaaa
open Go Go.Proofs.Yticdhmcbooabaaa.V
def annT : List (Nat × Nat × List Nat) := [(3, 10, [8, 10, 12]), (3, 15, [8, 13]), (5, 13, [9, 11, 12, 13, 18, 19, 20]), (8, 3, [1, 3, 10, 11]), (8, 7, [1, 3, 5, 6, 7, 10, 11]), (8, 10, [1, 3, 5, 6, 7, 8, 10, 11]), (9, 3, [1, 2, 5, 6]), (11, 2, [0, 3, 5]), (13, 4, [0, 1, 5]), (16, 4, [1, 2, 5, 6, 7]), (16, 7, [1, 2, 5, 6, 7, 8]), (17, 4, [2, 4, 7, 8, 13, 14, 15]), (19, 5, [0, 1, 5, 6]), (20, 4, [5, 13, 14, 15]), (20, 7, [5, 8, 9, 13, 14, 15]), (22, 14, [0, 4, 10, 13, 14, 15]), (31, 2, [0, 1, 7, 8]), (32, 2, [0, 1, 7, 8]), (35, 6, [3, 4, 6, 10, 45, 46, 47])]
def regT : List (Nat × Nat × List (List Nat)) := [(5, 7, [[], [], [], [1, 2], [0, 1, 2, 3], [0, 1, 2, 3, 4], [0, 1, 2, 3, 4, 5], [0, 1, 2, 3, 4, 5], [0, 1, 2, 3, 4, 5, 6], [0, 1, 2, 3, 4, 5, 6, 7, 8]]), (5, 11, [[], [], [], [1, 2], [0, 1, 2, 3], [0, 1, 2, 3, 4]]), (5, 15, [[], [0], [0, 1], [0, 1], [0, 1, 2, 3], [0, 1, 2, 3, 4], [0, 1], [0, 1, 2, 3, 4, 5, 6], [0, 1, 2, 3, 4, 5, 6, 7], [0, 1, 2, 3, 4, 5, 6, 7, 8]]), (5, 16, [[], [], [], [], [2, 3], [1, 2, 3, 4], [], [6], [1, 2, 3, 4, 5, 6, 7], [0, 1, 2, 3, 4, 5, 6, 7, 8], [0, 1, 2, 3, 4, 5, 6, 7, 8, 9], [0, 1, 2, 3, 4, 5, 6, 7, 8, 9, 10], [0, 1, 2, 3, 4, 5, 6, 7, 8, 9, 10], [0, 1, 2, 3, 4, 5, 6, 7, 8, 9, 10, 11], [0, 1, 2, 3, 4, 5, 6, 7, 8, 9, 10, 11, 12, 13]]), (11, 4, [[], [], [0, 1], [0, 1, 2], [], [0, 1, 2, 3, 4]]), (12, 2, [[], [0], [], [2], [], [0, 1], [0, 1, 2, 3, 5], [0, 1, 2, 3, 4, 5, 6]]), (13, 6, [[], [], [0, 1], [0, 1, 2], [], [], [4, 5], [4, 5, 6], [0, 1, 2, 3, 4, 5, 6, 7]]), (22, 2, [[], [], [1], [0, 1, 2], [0, 1, 2, 3]]), (23, 1, [[], [], [0, 1], [], [], [3], [3, 5], [3, 4, 5, 6], [3, 4, 5, 6, 7], [3, 4, 5, 6, 7, 8], [], [0, 1, 2, 3, 4, 5, 6, 7, 8, 9, 10], [], [0, 1, 2, 3, 4, 5, 6, 7, 8, 9, 10, 11, 12]]), (23, 2, [[], [], [], [1], [1, 3], [1, 2, 3, 4], [1, 2, 3, 4, 5], [], [0, 1, 2, 3, 4, 5, 6, 7], [0, 1, 2, 3, 4, 5, 6, 7, 8], [0, 1, 2, 3, 4, 5, 6, 7, 8, 9], [0, 1, 2, 3, 4, 5, 6, 7, 8, 9], [0, 1, 2, 3, 4, 5, 6, 7, 8, 9], [], [0, 1, 2, 3, 4, 5, 6, 7, 8, 9, 10, 13], [0, 1, 2, 3, 4, 5, 6, 7, 8, 9, 10, 11, 13, 14], [0, 1, 2, 3, 4, 5, 6, 7, 8, 9, 10, 11, 12, 13, 14, 15]]), (23, 5, [[], [], [], [0], [0, 3], [0, 1, 2, 3, 4], [0, 1, 2, 3, 4, 5]]), (23, 6, [[], [], [], [], [2], [2, 4], [2, 3, 4, 5], [2, 3, 4, 5, 6], [2, 3, 4, 5, 6, 7], [2, 3, 4, 5, 6, 7, 8], [2, 3, 4, 5, 6, 7, 8, 9], [2, 3, 4, 5, 6, 7, 8, 9, 10], [0], [0, 12], [0, 1, 2, 3, 4, 5, 6, 7, 8, 9, 10, 11, 12, 13], [0, 1, 2, 3, 4, 5, 6, 7, 8, 9, 10, 11, 12, 13, 14]])]
def lk2 {α : Type} (d : α) : List (Nat × Nat × α) → Nat → Nat → α
  | [], _, _ => d
  | (f, r, a) :: l, f', r' => match f.beq f' && r.beq r' with
    | true => a
    | false => lk2 d l f' r'
def lk1 {α : Type} : List (Nat × α) → Nat → Option α
  | [], _ => none
  | (f, a) :: l, f' => match f.beq f' with
    | true => some a
    | false => lk1 l f'
def eqT : List (Nat × List Kc) := [(36, [.int .i64, .int .i64, .int .i64]), (43, [.int .i64, .int .i64]), (52, [.int .i64, .int .i64]), (56, [.int .i64, .int .i64, .int .i64, .int .i64, .int .i64, .int .i64, .bool, .bool, .bool])]
def env : Env where
  ann := lk2 [] annT
  reg := lk2 [] regT
  eqT := lk1 eqT
  byRef g := [19, 31].contains g
attribute [go_sem] Try.underlying0 Try.underlying1 Try.underlying2 Try.underlying3 Try.underlying4 Try.underlying5 Try.underlying6 Try.underlying7 Try.underlying8 Try.underlying9 Try.underlying10 Try.underlying11 Try.underlying12 Try.underlying13 Try.underlying14 Try.underlying15 Try.underlying16 Try.underlying17 Try.underlying18 Try.underlying19 Try.underlying20 Try.underlying21 Try.underlying22 Try.underlying23 Try.underlying24 Try.underlying25 Try.underlying26 Try.underlying27 Try.underlying28 Try.underlying29 Try.underlying30 Try.underlying31 Try.underlying32 Try.underlying33 Try.underlying34 Try.underlying35 Try.underlying36 Try.underlying37 Try.underlying38 Try.underlying39 Try.underlying40 Try.underlying41 Try.underlying42 Try.underlying43 Try.underlying44 Try.underlying45 Try.underlying46 Try.underlying47 Try.underlying48 Try.underlying49 Try.underlying50 Try.underlying51 Try.underlying52 Try.underlying53 Try.underlying54 Try.underlying55 Try.underlying56 Try.underlying57 Try.underlying58 Try.underlying59 Try.underlying60 Try.underlying61 Try.underlying62 Try.underlying63 Try.underlying64 Try.underlying65 Try.underlying66 Try.underlying67 Try.underlying68 Try.underlying69 Try.underlying70 Try.underlying71 Try.underlying72 Try.underlying73 Try.underlying74 Try.underlying75 Try.underlying76 Try.underlying77 Try.underlying78 Try.underlying79 Try.underlying80 Try.underlying81 Try.underlying82 Try.underlying83 Try.underlying84 Try.underlying85 Try.underlying86 Try.underlying87 Try.underlying88 Try.underlying89 Try.underlying90 Try.underlying91 Try.underlying92 Try.underlying93 Try.underlying94 Try.underlying95 Try.underlying96
theorem cells0 : Try.prog.cellsOf 0 = 1 := by kernel_rfl
theorem bytes0 : Try.prog.bytesOf 0 = 0 := by kernel_rfl
theorem agg0 : isAggT Try.prog 0 = false := by kernel_rfl
theorem ok0 : okT Try.prog 0 = true := by kernel_rfl
theorem zero1 : zeroE Try.prog 1 = some (.opq .nilFunc) := by kernel_rfl
theorem zeros1 : zerosOf Try.prog 1 = some [.opq .nilFunc] := by kernel_rfl
theorem cells1 : Try.prog.cellsOf 1 = 1 := by kernel_rfl
theorem bytes1 : Try.prog.bytesOf 1 = 8 := by kernel_rfl
theorem agg1 : isAggT Try.prog 1 = false := by kernel_rfl
theorem ok1 : okT Try.prog 1 = true := by kernel_rfl
theorem zero2 : zeroE Try.prog 2 = some (.int .i64 0) := by kernel_rfl
theorem zeros2 : zerosOf Try.prog 2 = some [.int .i64 0] := by kernel_rfl
theorem cells2 : Try.prog.cellsOf 2 = 1 := by kernel_rfl
theorem bytes2 : Try.prog.bytesOf 2 = 8 := by kernel_rfl
theorem agg2 : isAggT Try.prog 2 = false := by kernel_rfl
theorem ok2 : okT Try.prog 2 = true := by kernel_rfl
theorem zero3 : zeroE Try.prog 3 = some (.int .i64 0) := by kernel_rfl
theorem zeros3 : zerosOf Try.prog 3 = some [.int .i64 0] := by kernel_rfl
theorem cells3 : Try.prog.cellsOf 3 = 1 := by kernel_rfl
theorem bytes3 : Try.prog.bytesOf 3 = 8 := by kernel_rfl
theorem agg3 : isAggT Try.prog 3 = false := by kernel_rfl
theorem ok3 : okT Try.prog 3 = true := by kernel_rfl
theorem zero4 : zeroE Try.prog 4 = some (.bool false) := by kernel_rfl
theorem zeros4 : zerosOf Try.prog 4 = some [.bool false] := by kernel_rfl
theorem cells4 : Try.prog.cellsOf 4 = 1 := by kernel_rfl
theorem bytes4 : Try.prog.bytesOf 4 = 1 := by kernel_rfl
theorem agg4 : isAggT Try.prog 4 = false := by kernel_rfl
theorem ok4 : okT Try.prog 4 = true := by kernel_rfl
theorem zero5 : zeroE Try.prog 5 = some (.int .u8 0) := by kernel_rfl
theorem zeros5 : zerosOf Try.prog 5 = some [.int .u8 0] := by kernel_rfl
theorem cells5 : Try.prog.cellsOf 5 = 1 := by kernel_rfl
theorem bytes5 : Try.prog.bytesOf 5 = 1 := by kernel_rfl
theorem agg5 : isAggT Try.prog 5 = false := by kernel_rfl
theorem ok5 : okT Try.prog 5 = true := by kernel_rfl
theorem zero6 : zeroE Try.prog 6 = some (.int .u8 0) := by kernel_rfl
theorem zeros6 : zerosOf Try.prog 6 = some [.int .u8 0] := by kernel_rfl
theorem cells6 : Try.prog.cellsOf 6 = 1 := by kernel_rfl
theorem bytes6 : Try.prog.bytesOf 6 = 1 := by kernel_rfl
theorem agg6 : isAggT Try.prog 6 = false := by kernel_rfl
theorem ok6 : okT Try.prog 6 = true := by kernel_rfl
theorem zero7 : zeroE Try.prog 7 = some (.agg [.int .i64 0, .int .i64 0, .bool false, .int .u8 0]) := by kernel_rfl
theorem zeros7 : zerosOf Try.prog 7 = some [.int .i64 0, .int .i64 0, .bool false, .int .u8 0] := by kernel_rfl
theorem cells7 : Try.prog.cellsOf 7 = 4 := by kernel_rfl
theorem bytes7 : Try.prog.bytesOf 7 = 24 := by kernel_rfl
theorem agg7 : isAggT Try.prog 7 = true := by kernel_rfl
theorem ok7 : okT Try.prog 7 = true := by kernel_rfl
theorem zero8 : zeroE Try.prog 8 = some (.agg [.int .i64 0, .int .i64 0, .bool false, .int .u8 0]) := by kernel_rfl
theorem zeros8 : zerosOf Try.prog 8 = some [.int .i64 0, .int .i64 0, .bool false, .int .u8 0] := by kernel_rfl
theorem cells8 : Try.prog.cellsOf 8 = 4 := by kernel_rfl
theorem bytes8 : Try.prog.bytesOf 8 = 24 := by kernel_rfl
theorem agg8 : isAggT Try.prog 8 = true := by kernel_rfl
theorem ok8 : okT Try.prog 8 = true := by kernel_rfl
theorem zero9 : zeroE Try.prog 9 = some (.str []) := by kernel_rfl
theorem zeros9 : zerosOf Try.prog 9 = some [.str []] := by kernel_rfl
theorem cells9 : Try.prog.cellsOf 9 = 1 := by kernel_rfl
theorem bytes9 : Try.prog.bytesOf 9 = 16 := by kernel_rfl
theorem agg9 : isAggT Try.prog 9 = false := by kernel_rfl
theorem ok9 : okT Try.prog 9 = true := by kernel_rfl
theorem zero10 : zeroE Try.prog 10 = some (.str []) := by kernel_rfl
theorem zeros10 : zerosOf Try.prog 10 = some [.str []] := by kernel_rfl
theorem cells10 : Try.prog.cellsOf 10 = 1 := by kernel_rfl
theorem bytes10 : Try.prog.bytesOf 10 = 16 := by kernel_rfl
theorem agg10 : isAggT Try.prog 10 = false := by kernel_rfl
theorem ok10 : okT Try.prog 10 = true := by kernel_rfl
theorem zero11 : zeroE Try.prog 11 = some (.str []) := by kernel_rfl
theorem zeros11 : zerosOf Try.prog 11 = some [.str []] := by kernel_rfl
theorem cells11 : Try.prog.cellsOf 11 = 1 := by kernel_rfl
theorem bytes11 : Try.prog.bytesOf 11 = 16 := by kernel_rfl
theorem agg11 : isAggT Try.prog 11 = false := by kernel_rfl
theorem ok11 : okT Try.prog 11 = true := by kernel_rfl
theorem zero12 : zeroE Try.prog 12 = some (.int .u64 0) := by kernel_rfl
theorem zeros12 : zerosOf Try.prog 12 = some [.int .u64 0] := by kernel_rfl
theorem cells12 : Try.prog.cellsOf 12 = 1 := by kernel_rfl
theorem bytes12 : Try.prog.bytesOf 12 = 8 := by kernel_rfl
theorem agg12 : isAggT Try.prog 12 = false := by kernel_rfl
theorem ok12 : okT Try.prog 12 = true := by kernel_rfl
theorem zero13 : zeroE Try.prog 13 = some (.agg [.str [], .int .u64 0]) := by kernel_rfl
theorem zeros13 : zerosOf Try.prog 13 = some [.str [], .int .u64 0] := by kernel_rfl
theorem cells13 : Try.prog.cellsOf 13 = 2 := by kernel_rfl
theorem bytes13 : Try.prog.bytesOf 13 = 24 := by kernel_rfl
theorem agg13 : isAggT Try.prog 13 = true := by kernel_rfl
theorem ok13 : okT Try.prog 13 = true := by kernel_rfl
theorem zero14 : zeroE Try.prog 14 = some (.agg [.str [], .int .u64 0]) := by kernel_rfl
theorem zeros14 : zerosOf Try.prog 14 = some [.str [], .int .u64 0] := by kernel_rfl
theorem cells14 : Try.prog.cellsOf 14 = 2 := by kernel_rfl
theorem bytes14 : Try.prog.bytesOf 14 = 24 := by kernel_rfl
theorem agg14 : isAggT Try.prog 14 = true := by kernel_rfl
theorem ok14 : okT Try.prog 14 = true := by kernel_rfl
theorem zero15 : zeroE Try.prog 15 = some (.opq (.pointer none)) := by kernel_rfl
theorem zeros15 : zerosOf Try.prog 15 = some [.opq (.pointer none)] := by kernel_rfl
theorem cells15 : Try.prog.cellsOf 15 = 1 := by kernel_rfl
theorem bytes15 : Try.prog.bytesOf 15 = 8 := by kernel_rfl
theorem agg15 : isAggT Try.prog 15 = false := by kernel_rfl
theorem ok15 : okT Try.prog 15 = true := by kernel_rfl
theorem zero16 : zeroE Try.prog 16 = some (.opq (.pointer none)) := by kernel_rfl
theorem zeros16 : zerosOf Try.prog 16 = some [.opq (.pointer none)] := by kernel_rfl
theorem cells16 : Try.prog.cellsOf 16 = 1 := by kernel_rfl
theorem bytes16 : Try.prog.bytesOf 16 = 8 := by kernel_rfl
theorem agg16 : isAggT Try.prog 16 = false := by kernel_rfl
theorem ok16 : okT Try.prog 16 = true := by kernel_rfl
theorem zero17 : zeroE Try.prog 17 = some (.opq (.pointer none)) := by kernel_rfl
theorem zeros17 : zerosOf Try.prog 17 = some [.opq (.pointer none)] := by kernel_rfl
theorem cells17 : Try.prog.cellsOf 17 = 1 := by kernel_rfl
theorem bytes17 : Try.prog.bytesOf 17 = 8 := by kernel_rfl
theorem agg17 : isAggT Try.prog 17 = false := by kernel_rfl
theorem ok17 : okT Try.prog 17 = true := by kernel_rfl
theorem zero18 : zeroE Try.prog 18 = some (.agg [.opq (.pointer none)]) := by kernel_rfl
theorem zeros18 : zerosOf Try.prog 18 = some [.opq (.pointer none)] := by kernel_rfl
theorem cells18 : Try.prog.cellsOf 18 = 1 := by kernel_rfl
theorem bytes18 : Try.prog.bytesOf 18 = 8 := by kernel_rfl
theorem agg18 : isAggT Try.prog 18 = true := by kernel_rfl
theorem ok18 : okT Try.prog 18 = true := by kernel_rfl
theorem zero19 : zeroE Try.prog 19 = some (.agg [.opq (.pointer none)]) := by kernel_rfl
theorem zeros19 : zerosOf Try.prog 19 = some [.opq (.pointer none)] := by kernel_rfl
theorem cells19 : Try.prog.cellsOf 19 = 1 := by kernel_rfl
theorem bytes19 : Try.prog.bytesOf 19 = 8 := by kernel_rfl
theorem agg19 : isAggT Try.prog 19 = true := by kernel_rfl
theorem ok19 : okT Try.prog 19 = true := by kernel_rfl
theorem zero20 : zeroE Try.prog 20 = some (.opq .nilIface) := by kernel_rfl
theorem zeros20 : zerosOf Try.prog 20 = some [.opq .nilIface] := by kernel_rfl
theorem cells20 : Try.prog.cellsOf 20 = 1 := by kernel_rfl
theorem bytes20 : Try.prog.bytesOf 20 = 16 := by kernel_rfl
theorem agg20 : isAggT Try.prog 20 = false := by kernel_rfl
theorem ok20 : okT Try.prog 20 = true := by kernel_rfl
theorem zero21 : zeroE Try.prog 21 = some (.int .i32 0) := by kernel_rfl
theorem zeros21 : zerosOf Try.prog 21 = some [.int .i32 0] := by kernel_rfl
theorem cells21 : Try.prog.cellsOf 21 = 1 := by kernel_rfl
theorem bytes21 : Try.prog.bytesOf 21 = 4 := by kernel_rfl
theorem agg21 : isAggT Try.prog 21 = false := by kernel_rfl
theorem ok21 : okT Try.prog 21 = true := by kernel_rfl
theorem zero22 : zeroE Try.prog 22 = some (.sl []) := by kernel_rfl
theorem zeros22 : zerosOf Try.prog 22 = some [.sl []] := by kernel_rfl
theorem cells22 : Try.prog.cellsOf 22 = 1 := by kernel_rfl
theorem bytes22 : Try.prog.bytesOf 22 = 24 := by kernel_rfl
theorem agg22 : isAggT Try.prog 22 = false := by kernel_rfl
theorem ok22 : okT Try.prog 22 = true := by kernel_rfl
theorem zero23 : zeroE Try.prog 23 = some (.opq .nilFunc) := by kernel_rfl
theorem zeros23 : zerosOf Try.prog 23 = some [.opq .nilFunc] := by kernel_rfl
theorem cells23 : Try.prog.cellsOf 23 = 1 := by kernel_rfl
theorem bytes23 : Try.prog.bytesOf 23 = 8 := by kernel_rfl
theorem agg23 : isAggT Try.prog 23 = false := by kernel_rfl
theorem ok23 : okT Try.prog 23 = true := by kernel_rfl
theorem zero24 : zeroE Try.prog 24 = some (.int .u32 0) := by kernel_rfl
theorem zeros24 : zerosOf Try.prog 24 = some [.int .u32 0] := by kernel_rfl
theorem cells24 : Try.prog.cellsOf 24 = 1 := by kernel_rfl
theorem bytes24 : Try.prog.bytesOf 24 = 4 := by kernel_rfl
theorem agg24 : isAggT Try.prog 24 = false := by kernel_rfl
theorem ok24 : okT Try.prog 24 = true := by kernel_rfl
theorem zero25 : zeroE Try.prog 25 = some (.agg [.int .i64 0, .int .i64 0, .int .i64 0, .int .i64 0, .str [], .str [], .int .i64 0, .int .u32 0, .bool false]) := by kernel_rfl
theorem zeros25 : zerosOf Try.prog 25 = some [.int .i64 0, .int .i64 0, .int .i64 0, .int .i64 0, .str [], .str [], .int .i64 0, .int .u32 0, .bool false] := by kernel_rfl
theorem cells25 : Try.prog.cellsOf 25 = 9 := by kernel_rfl
theorem bytes25 : Try.prog.bytesOf 25 = 80 := by kernel_rfl
theorem agg25 : isAggT Try.prog 25 = true := by kernel_rfl
theorem ok25 : okT Try.prog 25 = true := by kernel_rfl
theorem zero26 : zeroE Try.prog 26 = some (.agg [.int .i64 0, .int .i64 0, .int .i64 0, .int .i64 0, .str [], .str [], .int .i64 0, .int .u32 0, .bool false]) := by kernel_rfl
theorem zeros26 : zerosOf Try.prog 26 = some [.int .i64 0, .int .i64 0, .int .i64 0, .int .i64 0, .str [], .str [], .int .i64 0, .int .u32 0, .bool false] := by kernel_rfl
theorem cells26 : Try.prog.cellsOf 26 = 9 := by kernel_rfl
theorem bytes26 : Try.prog.bytesOf 26 = 80 := by kernel_rfl
theorem agg26 : isAggT Try.prog 26 = true := by kernel_rfl
theorem ok26 : okT Try.prog 26 = true := by kernel_rfl
theorem zero27 : zeroE Try.prog 27 = some (.opq .nilFunc) := by kernel_rfl
theorem zeros27 : zerosOf Try.prog 27 = some [.opq .nilFunc] := by kernel_rfl
theorem cells27 : Try.prog.cellsOf 27 = 1 := by kernel_rfl
theorem bytes27 : Try.prog.bytesOf 27 = 8 := by kernel_rfl
theorem agg27 : isAggT Try.prog 27 = false := by kernel_rfl
theorem ok27 : okT Try.prog 27 = true := by kernel_rfl
theorem zero28 : zeroE Try.prog 28 = some (.sl []) := by kernel_rfl
theorem zeros28 : zerosOf Try.prog 28 = some [.sl []] := by kernel_rfl
theorem cells28 : Try.prog.cellsOf 28 = 1 := by kernel_rfl
theorem bytes28 : Try.prog.bytesOf 28 = 24 := by kernel_rfl
theorem agg28 : isAggT Try.prog 28 = false := by kernel_rfl
theorem ok28 : okT Try.prog 28 = true := by kernel_rfl
theorem zero29 : zeroE Try.prog 29 = some (.opq .nilFunc) := by kernel_rfl
theorem zeros29 : zerosOf Try.prog 29 = some [.opq .nilFunc] := by kernel_rfl
theorem cells29 : Try.prog.cellsOf 29 = 1 := by kernel_rfl
theorem bytes29 : Try.prog.bytesOf 29 = 8 := by kernel_rfl
theorem agg29 : isAggT Try.prog 29 = false := by kernel_rfl
theorem ok29 : okT Try.prog 29 = true := by kernel_rfl
theorem zero30 : zeroE Try.prog 30 = some (.sl []) := by kernel_rfl
theorem zeros30 : zerosOf Try.prog 30 = some [.sl []] := by kernel_rfl
theorem cells30 : Try.prog.cellsOf 30 = 1 := by kernel_rfl
theorem bytes30 : Try.prog.bytesOf 30 = 24 := by kernel_rfl
theorem agg30 : isAggT Try.prog 30 = false := by kernel_rfl
theorem ok30 : okT Try.prog 30 = true := by kernel_rfl
theorem zero31 : zeroE Try.prog 31 = some (.opq .nilFunc) := by kernel_rfl
theorem zeros31 : zerosOf Try.prog 31 = some [.opq .nilFunc] := by kernel_rfl
theorem cells31 : Try.prog.cellsOf 31 = 1 := by kernel_rfl
theorem bytes31 : Try.prog.bytesOf 31 = 8 := by kernel_rfl
theorem agg31 : isAggT Try.prog 31 = false := by kernel_rfl
theorem ok31 : okT Try.prog 31 = true := by kernel_rfl
theorem cells32 : Try.prog.cellsOf 32 = 1 := by kernel_rfl
theorem bytes32 : Try.prog.bytesOf 32 = 0 := by kernel_rfl
theorem agg32 : isAggT Try.prog 32 = false := by kernel_rfl
theorem ok32 : okT Try.prog 32 = true := by kernel_rfl
theorem zero33 : zeroE Try.prog 33 = some (.opq .nilFunc) := by kernel_rfl
theorem zeros33 : zerosOf Try.prog 33 = some [.opq .nilFunc] := by kernel_rfl
theorem cells33 : Try.prog.cellsOf 33 = 1 := by kernel_rfl
theorem bytes33 : Try.prog.bytesOf 33 = 8 := by kernel_rfl
theorem agg33 : isAggT Try.prog 33 = false := by kernel_rfl
theorem ok33 : okT Try.prog 33 = true := by kernel_rfl
theorem zero34 : zeroE Try.prog 34 = some (.opq .nilFunc) := by kernel_rfl
theorem zeros34 : zerosOf Try.prog 34 = some [.opq .nilFunc] := by kernel_rfl
theorem cells34 : Try.prog.cellsOf 34 = 1 := by kernel_rfl
theorem bytes34 : Try.prog.bytesOf 34 = 8 := by kernel_rfl
theorem agg34 : isAggT Try.prog 34 = false := by kernel_rfl
theorem ok34 : okT Try.prog 34 = true := by kernel_rfl
theorem zero35 : zeroE Try.prog 35 = some (.agg [.int .i64 0, .int .i64 0, .int .i64 0]) := by kernel_rfl
theorem zeros35 : zerosOf Try.prog 35 = some [.int .i64 0, .int .i64 0, .int .i64 0] := by kernel_rfl
theorem cells35 : Try.prog.cellsOf 35 = 3 := by kernel_rfl
theorem bytes35 : Try.prog.bytesOf 35 = 24 := by kernel_rfl
theorem agg35 : isAggT Try.prog 35 = true := by kernel_rfl
theorem ok35 : okT Try.prog 35 = true := by kernel_rfl
theorem zero36 : zeroE Try.prog 36 = some (.agg [.int .i64 0, .int .i64 0, .int .i64 0]) := by kernel_rfl
theorem zeros36 : zerosOf Try.prog 36 = some [.int .i64 0, .int .i64 0, .int .i64 0] := by kernel_rfl
theorem cells36 : Try.prog.cellsOf 36 = 3 := by kernel_rfl
theorem bytes36 : Try.prog.bytesOf 36 = 24 := by kernel_rfl
theorem agg36 : isAggT Try.prog 36 = true := by kernel_rfl
theorem ok36 : okT Try.prog 36 = true := by kernel_rfl
theorem zero37 : zeroE Try.prog 37 = some (.opq .nilFunc) := by kernel_rfl
theorem zeros37 : zerosOf Try.prog 37 = some [.opq .nilFunc] := by kernel_rfl
theorem cells37 : Try.prog.cellsOf 37 = 1 := by kernel_rfl
theorem bytes37 : Try.prog.bytesOf 37 = 8 := by kernel_rfl
theorem agg37 : isAggT Try.prog 37 = false := by kernel_rfl
theorem ok37 : okT Try.prog 37 = true := by kernel_rfl
theorem zero38 : zeroE Try.prog 38 = some (.sl []) := by kernel_rfl
theorem zeros38 : zerosOf Try.prog 38 = some [.sl []] := by kernel_rfl
theorem cells38 : Try.prog.cellsOf 38 = 1 := by kernel_rfl
theorem bytes38 : Try.prog.bytesOf 38 = 24 := by kernel_rfl
theorem agg38 : isAggT Try.prog 38 = false := by kernel_rfl
theorem ok38 : okT Try.prog 38 = true := by kernel_rfl
theorem cells39 : Try.prog.cellsOf 39 = 1 := by kernel_rfl
theorem bytes39 : Try.prog.bytesOf 39 = 0 := by kernel_rfl
theorem agg39 : isAggT Try.prog 39 = false := by kernel_rfl
theorem ok39 : okT Try.prog 39 = true := by kernel_rfl
theorem zero40 : zeroE Try.prog 40 = some (.opq .nilFunc) := by kernel_rfl
theorem zeros40 : zerosOf Try.prog 40 = some [.opq .nilFunc] := by kernel_rfl
theorem cells40 : Try.prog.cellsOf 40 = 1 := by kernel_rfl
theorem bytes40 : Try.prog.bytesOf 40 = 8 := by kernel_rfl
theorem agg40 : isAggT Try.prog 40 = false := by kernel_rfl
theorem ok40 : okT Try.prog 40 = true := by kernel_rfl
theorem zero41 : zeroE Try.prog 41 = some (.opq .nilFunc) := by kernel_rfl
theorem zeros41 : zerosOf Try.prog 41 = some [.opq .nilFunc] := by kernel_rfl
theorem cells41 : Try.prog.cellsOf 41 = 1 := by kernel_rfl
theorem bytes41 : Try.prog.bytesOf 41 = 8 := by kernel_rfl
theorem agg41 : isAggT Try.prog 41 = false := by kernel_rfl
theorem ok41 : okT Try.prog 41 = true := by kernel_rfl
theorem zero42 : zeroE Try.prog 42 = some (.agg [.int .i64 0, .int .i64 0]) := by kernel_rfl
theorem zeros42 : zerosOf Try.prog 42 = some [.int .i64 0, .int .i64 0] := by kernel_rfl
theorem cells42 : Try.prog.cellsOf 42 = 2 := by kernel_rfl
theorem bytes42 : Try.prog.bytesOf 42 = 16 := by kernel_rfl
theorem agg42 : isAggT Try.prog 42 = true := by kernel_rfl
theorem ok42 : okT Try.prog 42 = true := by kernel_rfl
theorem zero43 : zeroE Try.prog 43 = some (.agg [.int .i64 0, .int .i64 0]) := by kernel_rfl
theorem zeros43 : zerosOf Try.prog 43 = some [.int .i64 0, .int .i64 0] := by kernel_rfl
theorem cells43 : Try.prog.cellsOf 43 = 2 := by kernel_rfl
theorem bytes43 : Try.prog.bytesOf 43 = 16 := by kernel_rfl
theorem agg43 : isAggT Try.prog 43 = true := by kernel_rfl
theorem ok43 : okT Try.prog 43 = true := by kernel_rfl
theorem zero44 : zeroE Try.prog 44 = some (.opq .nilFunc) := by kernel_rfl
theorem zeros44 : zerosOf Try.prog 44 = some [.opq .nilFunc] := by kernel_rfl
theorem cells44 : Try.prog.cellsOf 44 = 1 := by kernel_rfl
theorem bytes44 : Try.prog.bytesOf 44 = 8 := by kernel_rfl
theorem agg44 : isAggT Try.prog 44 = false := by kernel_rfl
theorem ok44 : okT Try.prog 44 = true := by kernel_rfl
theorem zero45 : zeroE Try.prog 45 = some (.opq .nilFunc) := by kernel_rfl
theorem zeros45 : zerosOf Try.prog 45 = some [.opq .nilFunc] := by kernel_rfl
theorem cells45 : Try.prog.cellsOf 45 = 1 := by kernel_rfl
theorem bytes45 : Try.prog.bytesOf 45 = 8 := by kernel_rfl
theorem agg45 : isAggT Try.prog 45 = false := by kernel_rfl
theorem ok45 : okT Try.prog 45 = true := by kernel_rfl
theorem zero46 : zeroE Try.prog 46 = some (.opq .nilFunc) := by kernel_rfl
theorem zeros46 : zerosOf Try.prog 46 = some [.opq .nilFunc] := by kernel_rfl
theorem cells46 : Try.prog.cellsOf 46 = 1 := by kernel_rfl
theorem bytes46 : Try.prog.bytesOf 46 = 8 := by kernel_rfl
theorem agg46 : isAggT Try.prog 46 = false := by kernel_rfl
theorem ok46 : okT Try.prog 46 = true := by kernel_rfl
theorem zero47 : zeroE Try.prog 47 = some (.agg [.int .i64 0, .int .i64 0, .int .i64 0]) := by kernel_rfl
theorem zeros47 : zerosOf Try.prog 47 = some [.int .i64 0, .int .i64 0, .int .i64 0] := by kernel_rfl
theorem cells47 : Try.prog.cellsOf 47 = 3 := by kernel_rfl
theorem bytes47 : Try.prog.bytesOf 47 = 24 := by kernel_rfl
theorem agg47 : isAggT Try.prog 47 = true := by kernel_rfl
theorem ok47 : okT Try.prog 47 = true := by kernel_rfl
theorem zero48 : zeroE Try.prog 48 = some (.opq .nilFunc) := by kernel_rfl
theorem zeros48 : zerosOf Try.prog 48 = some [.opq .nilFunc] := by kernel_rfl
theorem cells48 : Try.prog.cellsOf 48 = 1 := by kernel_rfl
theorem bytes48 : Try.prog.bytesOf 48 = 8 := by kernel_rfl
theorem agg48 : isAggT Try.prog 48 = false := by kernel_rfl
theorem ok48 : okT Try.prog 48 = true := by kernel_rfl
theorem zero49 : zeroE Try.prog 49 = some (.opq (.map none)) := by kernel_rfl
theorem zeros49 : zerosOf Try.prog 49 = some [.opq (.map none)] := by kernel_rfl
theorem cells49 : Try.prog.cellsOf 49 = 1 := by kernel_rfl
theorem bytes49 : Try.prog.bytesOf 49 = 8 := by kernel_rfl
theorem agg49 : isAggT Try.prog 49 = false := by kernel_rfl
theorem ok49 : okT Try.prog 49 = true := by kernel_rfl
theorem zero50 : zeroE Try.prog 50 = some (.opq .nilFunc) := by kernel_rfl
theorem zeros50 : zerosOf Try.prog 50 = some [.opq .nilFunc] := by kernel_rfl
theorem cells50 : Try.prog.cellsOf 50 = 1 := by kernel_rfl
theorem bytes50 : Try.prog.bytesOf 50 = 8 := by kernel_rfl
theorem agg50 : isAggT Try.prog 50 = false := by kernel_rfl
theorem ok50 : okT Try.prog 50 = true := by kernel_rfl
theorem zero51 : zeroE Try.prog 51 = some (.agg [.int .i64 0, .int .i64 0]) := by kernel_rfl
theorem zeros51 : zerosOf Try.prog 51 = some [.int .i64 0, .int .i64 0] := by kernel_rfl
theorem cells51 : Try.prog.cellsOf 51 = 2 := by kernel_rfl
theorem bytes51 : Try.prog.bytesOf 51 = 16 := by kernel_rfl
theorem agg51 : isAggT Try.prog 51 = true := by kernel_rfl
theorem ok51 : okT Try.prog 51 = true := by kernel_rfl
theorem zero52 : zeroE Try.prog 52 = some (.agg [.int .i64 0, .int .i64 0]) := by kernel_rfl
theorem zeros52 : zerosOf Try.prog 52 = some [.int .i64 0, .int .i64 0] := by kernel_rfl
theorem cells52 : Try.prog.cellsOf 52 = 2 := by kernel_rfl
theorem bytes52 : Try.prog.bytesOf 52 = 16 := by kernel_rfl
theorem agg52 : isAggT Try.prog 52 = true := by kernel_rfl
theorem ok52 : okT Try.prog 52 = true := by kernel_rfl
theorem zero53 : zeroE Try.prog 53 = some (.agg [.int .i64 0, .int .i64 0, .int .i64 0, .int .i64 0, .int .i64 0, .int .i64 0]) := by kernel_rfl
theorem zeros53 : zerosOf Try.prog 53 = some [.int .i64 0, .int .i64 0, .int .i64 0, .int .i64 0, .int .i64 0, .int .i64 0] := by kernel_rfl
theorem cells53 : Try.prog.cellsOf 53 = 6 := by kernel_rfl
theorem bytes53 : Try.prog.bytesOf 53 = 48 := by kernel_rfl
theorem agg53 : isAggT Try.prog 53 = true := by kernel_rfl
theorem ok53 : okT Try.prog 53 = true := by kernel_rfl
theorem zero54 : zeroE Try.prog 54 = some (.agg [.bool false, .bool false, .bool false]) := by kernel_rfl
theorem zeros54 : zerosOf Try.prog 54 = some [.bool false, .bool false, .bool false] := by kernel_rfl
theorem cells54 : Try.prog.cellsOf 54 = 3 := by kernel_rfl
theorem bytes54 : Try.prog.bytesOf 54 = 3 := by kernel_rfl
theorem agg54 : isAggT Try.prog 54 = true := by kernel_rfl
theorem ok54 : okT Try.prog 54 = true := by kernel_rfl
theorem zero55 : zeroE Try.prog 55 = some (.agg [.int .i64 0, .int .i64 0, .int .i64 0, .int .i64 0, .int .i64 0, .int .i64 0, .bool false, .bool false, .bool false]) := by kernel_rfl
theorem zeros55 : zerosOf Try.prog 55 = some [.int .i64 0, .int .i64 0, .int .i64 0, .int .i64 0, .int .i64 0, .int .i64 0, .bool false, .bool false, .bool false] := by kernel_rfl
theorem cells55 : Try.prog.cellsOf 55 = 9 := by kernel_rfl
theorem bytes55 : Try.prog.bytesOf 55 = 56 := by kernel_rfl
theorem agg55 : isAggT Try.prog 55 = true := by kernel_rfl
theorem ok55 : okT Try.prog 55 = true := by kernel_rfl
theorem zero56 : zeroE Try.prog 56 = some (.agg [.int .i64 0, .int .i64 0, .int .i64 0, .int .i64 0, .int .i64 0, .int .i64 0, .bool false, .bool false, .bool false]) := by kernel_rfl
theorem zeros56 : zerosOf Try.prog 56 = some [.int .i64 0, .int .i64 0, .int .i64 0, .int .i64 0, .int .i64 0, .int .i64 0, .bool false, .bool false, .bool false] := by kernel_rfl
theorem cells56 : Try.prog.cellsOf 56 = 9 := by kernel_rfl
theorem bytes56 : Try.prog.bytesOf 56 = 56 := by kernel_rfl
theorem agg56 : isAggT Try.prog 56 = true := by kernel_rfl
theorem ok56 : okT Try.prog 56 = true := by kernel_rfl
theorem cells57 : Try.prog.cellsOf 57 = 1 := by kernel_rfl
theorem bytes57 : Try.prog.bytesOf 57 = 0 := by kernel_rfl
theorem agg57 : isAggT Try.prog 57 = false := by kernel_rfl
theorem ok57 : okT Try.prog 57 = true := by kernel_rfl
theorem zero58 : zeroE Try.prog 58 = some (.opq .nilFunc) := by kernel_rfl
theorem zeros58 : zerosOf Try.prog 58 = some [.opq .nilFunc] := by kernel_rfl
theorem cells58 : Try.prog.cellsOf 58 = 1 := by kernel_rfl
theorem bytes58 : Try.prog.bytesOf 58 = 8 := by kernel_rfl
theorem agg58 : isAggT Try.prog 58 = false := by kernel_rfl
theorem ok58 : okT Try.prog 58 = true := by kernel_rfl
theorem zero59 : zeroE Try.prog 59 = some (.agg [.int .i64 0, .sl []]) := by kernel_rfl
theorem zeros59 : zerosOf Try.prog 59 = some [.int .i64 0, .sl []] := by kernel_rfl
theorem cells59 : Try.prog.cellsOf 59 = 2 := by kernel_rfl
theorem bytes59 : Try.prog.bytesOf 59 = 32 := by kernel_rfl
theorem agg59 : isAggT Try.prog 59 = true := by kernel_rfl
theorem ok59 : okT Try.prog 59 = true := by kernel_rfl
theorem zero60 : zeroE Try.prog 60 = some (.agg [.int .i64 0, .sl []]) := by kernel_rfl
theorem zeros60 : zerosOf Try.prog 60 = some [.int .i64 0, .sl []] := by kernel_rfl
theorem cells60 : Try.prog.cellsOf 60 = 2 := by kernel_rfl
theorem bytes60 : Try.prog.bytesOf 60 = 32 := by kernel_rfl
theorem agg60 : isAggT Try.prog 60 = true := by kernel_rfl
theorem ok60 : okT Try.prog 60 = true := by kernel_rfl
theorem cells61 : Try.prog.cellsOf 61 = 1 := by kernel_rfl
theorem bytes61 : Try.prog.bytesOf 61 = 0 := by kernel_rfl
theorem agg61 : isAggT Try.prog 61 = false := by kernel_rfl
theorem ok61 : okT Try.prog 61 = true := by kernel_rfl
theorem zero62 : zeroE Try.prog 62 = some (.opq .nilFunc) := by kernel_rfl
theorem zeros62 : zerosOf Try.prog 62 = some [.opq .nilFunc] := by kernel_rfl
theorem cells62 : Try.prog.cellsOf 62 = 1 := by kernel_rfl
theorem bytes62 : Try.prog.bytesOf 62 = 8 := by kernel_rfl
theorem agg62 : isAggT Try.prog 62 = false := by kernel_rfl
theorem ok62 : okT Try.prog 62 = true := by kernel_rfl
theorem zero63 : zeroE Try.prog 63 = some (.opq .nilFunc) := by kernel_rfl
theorem zeros63 : zerosOf Try.prog 63 = some [.opq .nilFunc] := by kernel_rfl
theorem cells63 : Try.prog.cellsOf 63 = 1 := by kernel_rfl
theorem bytes63 : Try.prog.bytesOf 63 = 8 := by kernel_rfl
theorem agg63 : isAggT Try.prog 63 = false := by kernel_rfl
theorem ok63 : okT Try.prog 63 = true := by kernel_rfl
theorem zero64 : zeroE Try.prog 64 = some (.opq .nilFunc) := by kernel_rfl
theorem zeros64 : zerosOf Try.prog 64 = some [.opq .nilFunc] := by kernel_rfl
theorem cells64 : Try.prog.cellsOf 64 = 1 := by kernel_rfl
theorem bytes64 : Try.prog.bytesOf 64 = 8 := by kernel_rfl
theorem agg64 : isAggT Try.prog 64 = false := by kernel_rfl
theorem ok64 : okT Try.prog 64 = true := by kernel_rfl
theorem zero65 : zeroE Try.prog 65 = some (.opq .nilFunc) := by kernel_rfl
theorem zeros65 : zerosOf Try.prog 65 = some [.opq .nilFunc] := by kernel_rfl
theorem cells65 : Try.prog.cellsOf 65 = 1 := by kernel_rfl
theorem bytes65 : Try.prog.bytesOf 65 = 8 := by kernel_rfl
theorem agg65 : isAggT Try.prog 65 = false := by kernel_rfl
theorem ok65 : okT Try.prog 65 = true := by kernel_rfl
theorem zero66 : zeroE Try.prog 66 = some (.opq .nilFunc) := by kernel_rfl
theorem zeros66 : zerosOf Try.prog 66 = some [.opq .nilFunc] := by kernel_rfl
theorem cells66 : Try.prog.cellsOf 66 = 1 := by kernel_rfl
theorem bytes66 : Try.prog.bytesOf 66 = 8 := by kernel_rfl
theorem agg66 : isAggT Try.prog 66 = false := by kernel_rfl
theorem ok66 : okT Try.prog 66 = true := by kernel_rfl
theorem zero67 : zeroE Try.prog 67 = some (.opq (.map none)) := by kernel_rfl
theorem zeros67 : zerosOf Try.prog 67 = some [.opq (.map none)] := by kernel_rfl
theorem cells67 : Try.prog.cellsOf 67 = 1 := by kernel_rfl
theorem bytes67 : Try.prog.bytesOf 67 = 8 := by kernel_rfl
theorem agg67 : isAggT Try.prog 67 = false := by kernel_rfl
theorem ok67 : okT Try.prog 67 = true := by kernel_rfl
theorem zero68 : zeroE Try.prog 68 = some (.sl []) := by kernel_rfl
theorem zeros68 : zerosOf Try.prog 68 = some [.sl []] := by kernel_rfl
theorem cells68 : Try.prog.cellsOf 68 = 1 := by kernel_rfl
theorem bytes68 : Try.prog.bytesOf 68 = 24 := by kernel_rfl
theorem agg68 : isAggT Try.prog 68 = false := by kernel_rfl
theorem ok68 : okT Try.prog 68 = true := by kernel_rfl
theorem cells69 : Try.prog.cellsOf 69 = 1 := by kernel_rfl
theorem bytes69 : Try.prog.bytesOf 69 = 0 := by kernel_rfl
theorem agg69 : isAggT Try.prog 69 = false := by kernel_rfl
theorem ok69 : okT Try.prog 69 = true := by kernel_rfl
theorem zero70 : zeroE Try.prog 70 = some (.opq .nilFunc) := by kernel_rfl
theorem zeros70 : zerosOf Try.prog 70 = some [.opq .nilFunc] := by kernel_rfl
theorem cells70 : Try.prog.cellsOf 70 = 1 := by kernel_rfl
theorem bytes70 : Try.prog.bytesOf 70 = 8 := by kernel_rfl
theorem agg70 : isAggT Try.prog 70 = false := by kernel_rfl
theorem ok70 : okT Try.prog 70 = true := by kernel_rfl
theorem zero71 : zeroE Try.prog 71 = some (.opq .nilFunc) := by kernel_rfl
theorem zeros71 : zerosOf Try.prog 71 = some [.opq .nilFunc] := by kernel_rfl
theorem cells71 : Try.prog.cellsOf 71 = 1 := by kernel_rfl
theorem bytes71 : Try.prog.bytesOf 71 = 8 := by kernel_rfl
theorem agg71 : isAggT Try.prog 71 = false := by kernel_rfl
theorem ok71 : okT Try.prog 71 = true := by kernel_rfl
theorem zero72 : zeroE Try.prog 72 = some (.opq .nilFunc) := by kernel_rfl
theorem zeros72 : zerosOf Try.prog 72 = some [.opq .nilFunc] := by kernel_rfl
theorem cells72 : Try.prog.cellsOf 72 = 1 := by kernel_rfl
theorem bytes72 : Try.prog.bytesOf 72 = 8 := by kernel_rfl
theorem agg72 : isAggT Try.prog 72 = false := by kernel_rfl
theorem ok72 : okT Try.prog 72 = true := by kernel_rfl
theorem zero73 : zeroE Try.prog 73 = some (.opq (.pointer none)) := by kernel_rfl
theorem zeros73 : zerosOf Try.prog 73 = some [.opq (.pointer none)] := by kernel_rfl
theorem cells73 : Try.prog.cellsOf 73 = 1 := by kernel_rfl
theorem bytes73 : Try.prog.bytesOf 73 = 8 := by kernel_rfl
theorem agg73 : isAggT Try.prog 73 = false := by kernel_rfl
theorem ok73 : okT Try.prog 73 = true := by kernel_rfl
theorem zero74 : zeroE Try.prog 74 = some (.opq .nilFunc) := by kernel_rfl
theorem zeros74 : zerosOf Try.prog 74 = some [.opq .nilFunc] := by kernel_rfl
theorem cells74 : Try.prog.cellsOf 74 = 1 := by kernel_rfl
theorem bytes74 : Try.prog.bytesOf 74 = 8 := by kernel_rfl
theorem agg74 : isAggT Try.prog 74 = false := by kernel_rfl
theorem ok74 : okT Try.prog 74 = true := by kernel_rfl
theorem zero75 : zeroE Try.prog 75 = some (.opq .nilFunc) := by kernel_rfl
theorem zeros75 : zerosOf Try.prog 75 = some [.opq .nilFunc] := by kernel_rfl
theorem cells75 : Try.prog.cellsOf 75 = 1 := by kernel_rfl
theorem bytes75 : Try.prog.bytesOf 75 = 8 := by kernel_rfl
theorem agg75 : isAggT Try.prog 75 = false := by kernel_rfl
theorem ok75 : okT Try.prog 75 = true := by kernel_rfl
theorem cells76 : Try.prog.cellsOf 76 = 1 := by kernel_rfl
theorem bytes76 : Try.prog.bytesOf 76 = 0 := by kernel_rfl
theorem agg76 : isAggT Try.prog 76 = false := by kernel_rfl
theorem ok76 : okT Try.prog 76 = true := by kernel_rfl
theorem zero77 : zeroE Try.prog 77 = some (.opq .nilFunc) := by kernel_rfl
theorem zeros77 : zerosOf Try.prog 77 = some [.opq .nilFunc] := by kernel_rfl
theorem cells77 : Try.prog.cellsOf 77 = 1 := by kernel_rfl
theorem bytes77 : Try.prog.bytesOf 77 = 8 := by kernel_rfl
theorem agg77 : isAggT Try.prog 77 = false := by kernel_rfl
theorem ok77 : okT Try.prog 77 = true := by kernel_rfl
theorem zero78 : zeroE Try.prog 78 = some (.opq .nilFunc) := by kernel_rfl
theorem zeros78 : zerosOf Try.prog 78 = some [.opq .nilFunc] := by kernel_rfl
theorem cells78 : Try.prog.cellsOf 78 = 1 := by kernel_rfl
theorem bytes78 : Try.prog.bytesOf 78 = 8 := by kernel_rfl
theorem agg78 : isAggT Try.prog 78 = false := by kernel_rfl
theorem ok78 : okT Try.prog 78 = true := by kernel_rfl
theorem zero79 : zeroE Try.prog 79 = some (.opq .nilFunc) := by kernel_rfl
theorem zeros79 : zerosOf Try.prog 79 = some [.opq .nilFunc] := by kernel_rfl
theorem cells79 : Try.prog.cellsOf 79 = 1 := by kernel_rfl
theorem bytes79 : Try.prog.bytesOf 79 = 8 := by kernel_rfl
theorem agg79 : isAggT Try.prog 79 = false := by kernel_rfl
theorem ok79 : okT Try.prog 79 = true := by kernel_rfl
theorem zero80 : zeroE Try.prog 80 = some (.opq .nilFunc) := by kernel_rfl
theorem zeros80 : zerosOf Try.prog 80 = some [.opq .nilFunc] := by kernel_rfl
theorem cells80 : Try.prog.cellsOf 80 = 1 := by kernel_rfl
theorem bytes80 : Try.prog.bytesOf 80 = 8 := by kernel_rfl
theorem agg80 : isAggT Try.prog 80 = false := by kernel_rfl
theorem ok80 : okT Try.prog 80 = true := by kernel_rfl
theorem zero81 : zeroE Try.prog 81 = some (.opq .nilFunc) := by kernel_rfl
theorem zeros81 : zerosOf Try.prog 81 = some [.opq .nilFunc] := by kernel_rfl
theorem cells81 : Try.prog.cellsOf 81 = 1 := by kernel_rfl
theorem bytes81 : Try.prog.bytesOf 81 = 8 := by kernel_rfl
theorem agg81 : isAggT Try.prog 81 = false := by kernel_rfl
theorem ok81 : okT Try.prog 81 = true := by kernel_rfl
theorem zero82 : zeroE Try.prog 82 = some (.agg [.opq (.pointer none), .opq (.pointer none), .opq (.pointer none), .str []]) := by kernel_rfl
theorem zeros82 : zerosOf Try.prog 82 = some [.opq (.pointer none), .opq (.pointer none), .opq (.pointer none), .str []] := by kernel_rfl
theorem cells82 : Try.prog.cellsOf 82 = 4 := by kernel_rfl
theorem bytes82 : Try.prog.bytesOf 82 = 40 := by kernel_rfl
theorem agg82 : isAggT Try.prog 82 = true := by kernel_rfl
theorem ok82 : okT Try.prog 82 = true := by kernel_rfl
theorem zero83 : zeroE Try.prog 83 = some (.agg [.opq (.pointer none), .opq (.pointer none), .opq (.pointer none), .str []]) := by kernel_rfl
theorem zeros83 : zerosOf Try.prog 83 = some [.opq (.pointer none), .opq (.pointer none), .opq (.pointer none), .str []] := by kernel_rfl
theorem cells83 : Try.prog.cellsOf 83 = 4 := by kernel_rfl
theorem bytes83 : Try.prog.bytesOf 83 = 40 := by kernel_rfl
theorem agg83 : isAggT Try.prog 83 = true := by kernel_rfl
theorem ok83 : okT Try.prog 83 = true := by kernel_rfl
theorem zero84 : zeroE Try.prog 84 = some (.agg []) := by kernel_rfl
theorem zeros84 : zerosOf Try.prog 84 = some [] := by kernel_rfl
theorem zero85 : zeroE Try.prog 85 = some (.agg []) := by kernel_rfl
theorem zeros85 : zerosOf Try.prog 85 = some [] := by kernel_rfl
theorem zero86 : zeroE Try.prog 86 = some (.agg []) := by kernel_rfl
theorem zeros86 : zerosOf Try.prog 86 = some [] := by kernel_rfl
theorem zero87 : zeroE Try.prog 87 = some (.opq .nilFunc) := by kernel_rfl
theorem zeros87 : zerosOf Try.prog 87 = some [.opq .nilFunc] := by kernel_rfl
theorem cells87 : Try.prog.cellsOf 87 = 1 := by kernel_rfl
theorem bytes87 : Try.prog.bytesOf 87 = 8 := by kernel_rfl
theorem agg87 : isAggT Try.prog 87 = false := by kernel_rfl
theorem ok87 : okT Try.prog 87 = true := by kernel_rfl
theorem zero88 : zeroE Try.prog 88 = some (.int .u8 0) := by kernel_rfl
theorem zeros88 : zerosOf Try.prog 88 = some [.int .u8 0] := by kernel_rfl
theorem cells88 : Try.prog.cellsOf 88 = 1 := by kernel_rfl
theorem bytes88 : Try.prog.bytesOf 88 = 1 := by kernel_rfl
theorem agg88 : isAggT Try.prog 88 = false := by kernel_rfl
theorem ok88 : okT Try.prog 88 = true := by kernel_rfl
theorem zero89 : zeroE Try.prog 89 = some (.int .u8 0) := by kernel_rfl
theorem zeros89 : zerosOf Try.prog 89 = some [.int .u8 0] := by kernel_rfl
theorem cells89 : Try.prog.cellsOf 89 = 1 := by kernel_rfl
theorem bytes89 : Try.prog.bytesOf 89 = 1 := by kernel_rfl
theorem agg89 : isAggT Try.prog 89 = false := by kernel_rfl
theorem ok89 : okT Try.prog 89 = true := by kernel_rfl
theorem zero90 : zeroE Try.prog 90 = some (.opq .nilFunc) := by kernel_rfl
theorem zeros90 : zerosOf Try.prog 90 = some [.opq .nilFunc] := by kernel_rfl
theorem cells90 : Try.prog.cellsOf 90 = 1 := by kernel_rfl
theorem bytes90 : Try.prog.bytesOf 90 = 8 := by kernel_rfl
theorem agg90 : isAggT Try.prog 90 = false := by kernel_rfl
theorem ok90 : okT Try.prog 90 = true := by kernel_rfl
theorem zero91 : zeroE Try.prog 91 = some (.opq (.pointer none)) := by kernel_rfl
theorem zeros91 : zerosOf Try.prog 91 = some [.opq (.pointer none)] := by kernel_rfl
theorem cells91 : Try.prog.cellsOf 91 = 1 := by kernel_rfl
theorem bytes91 : Try.prog.bytesOf 91 = 8 := by kernel_rfl
theorem agg91 : isAggT Try.prog 91 = false := by kernel_rfl
theorem ok91 : okT Try.prog 91 = true := by kernel_rfl
theorem zero92 : zeroE Try.prog 92 = some (.int .i32 0) := by kernel_rfl
theorem zeros92 : zerosOf Try.prog 92 = some [.int .i32 0] := by kernel_rfl
theorem cells92 : Try.prog.cellsOf 92 = 1 := by kernel_rfl
theorem bytes92 : Try.prog.bytesOf 92 = 4 := by kernel_rfl
theorem agg92 : isAggT Try.prog 92 = false := by kernel_rfl
theorem ok92 : okT Try.prog 92 = true := by kernel_rfl
theorem zero93 : zeroE Try.prog 93 = some (.int .i32 0) := by kernel_rfl
theorem zeros93 : zerosOf Try.prog 93 = some [.int .i32 0] := by kernel_rfl
theorem cells93 : Try.prog.cellsOf 93 = 1 := by kernel_rfl
theorem bytes93 : Try.prog.bytesOf 93 = 4 := by kernel_rfl
theorem agg93 : isAggT Try.prog 93 = false := by kernel_rfl
theorem ok93 : okT Try.prog 93 = true := by kernel_rfl
theorem zero94 : zeroE Try.prog 94 = some (.agg [.int .u64 0, .int .u64 0, .int .u32 0, .int .u8 0, .int .u8 0, .int .u8 0, .int .u8 0, .opq .nilFunc, .opq (.pointer none), .int .i32 0, .int .i32 0]) := by kernel_rfl
theorem zeros94 : zerosOf Try.prog 94 = some [.int .u64 0, .int .u64 0, .int .u32 0, .int .u8 0, .int .u8 0, .int .u8 0, .int .u8 0, .opq .nilFunc, .opq (.pointer none), .int .i32 0, .int .i32 0] := by kernel_rfl
theorem cells94 : Try.prog.cellsOf 94 = 11 := by kernel_rfl
theorem bytes94 : Try.prog.bytesOf 94 = 48 := by kernel_rfl
theorem agg94 : isAggT Try.prog 94 = true := by kernel_rfl
theorem ok94 : okT Try.prog 94 = true := by kernel_rfl
theorem zero95 : zeroE Try.prog 95 = some (.agg [.int .u64 0, .int .u64 0, .int .u32 0, .int .u8 0, .int .u8 0, .int .u8 0, .int .u8 0, .opq .nilFunc, .opq (.pointer none), .int .i32 0, .int .i32 0]) := by kernel_rfl
theorem zeros95 : zerosOf Try.prog 95 = some [.int .u64 0, .int .u64 0, .int .u32 0, .int .u8 0, .int .u8 0, .int .u8 0, .int .u8 0, .opq .nilFunc, .opq (.pointer none), .int .i32 0, .int .i32 0] := by kernel_rfl
theorem cells95 : Try.prog.cellsOf 95 = 11 := by kernel_rfl
theorem bytes95 : Try.prog.bytesOf 95 = 48 := by kernel_rfl
theorem agg95 : isAggT Try.prog 95 = true := by kernel_rfl
theorem ok95 : okT Try.prog 95 = true := by kernel_rfl
theorem zero96 : zeroE Try.prog 96 = some (.opq (.pointer none)) := by kernel_rfl
theorem zeros96 : zerosOf Try.prog 96 = some [.opq (.pointer none)] := by kernel_rfl
theorem cells96 : Try.prog.cellsOf 96 = 1 := by kernel_rfl
theorem bytes96 : Try.prog.bytesOf 96 = 8 := by kernel_rfl
theorem agg96 : isAggT Try.prog 96 = false := by kernel_rfl
theorem ok96 : okT Try.prog 96 = true := by kernel_rfl
theorem place26 : placeV Try.prog 26 = some (fun i => ([(0, 1), (1, 1), (2, 1), (3, 1), (4, 1), (5, 1), (6, 1), (7, 1), (8, 1)] : List (Nat × Nat))[i]?) := placeV_of Try.underlying26 (by kernel_rfl) (by kernel_rfl)
theorem place36 : placeV Try.prog 36 = some (fun i => ([(0, 1), (1, 1), (2, 1)] : List (Nat × Nat))[i]?) := placeV_of Try.underlying36 (by kernel_rfl) (by kernel_rfl)
theorem place43 : placeV Try.prog 43 = some (fun i => ([(0, 1), (1, 1)] : List (Nat × Nat))[i]?) := placeV_of Try.underlying43 (by kernel_rfl) (by kernel_rfl)
theorem place52 : placeV Try.prog 52 = some (fun i => ([(0, 1), (1, 1)] : List (Nat × Nat))[i]?) := placeV_of Try.underlying52 (by kernel_rfl) (by kernel_rfl)
theorem place56 : placeV Try.prog 56 = some (fun i => ([(0, 6), (6, 3)] : List (Nat × Nat))[i]?) := placeV_of Try.underlying56 (by kernel_rfl) (by kernel_rfl)
theorem place60 : placeV Try.prog 60 = some (fun i => ([(0, 1), (1, 1)] : List (Nat × Nat))[i]?) := placeV_of Try.underlying60 (by kernel_rfl) (by kernel_rfl)
theorem place47 : placeV Try.prog 47 = some (fun i => some (i * 1, 1)) := placeV_arr Try.underlying47 cells3 (by decide)
attribute [go_sem] cells0 bytes0 agg0 ok0 zero1 zeros1 cells1 bytes1 agg1 ok1 zero2 zeros2 cells2 bytes2 agg2 ok2 zero3 zeros3 cells3 bytes3 agg3 ok3 zero4 zeros4 cells4 bytes4 agg4 ok4 zero5 zeros5 cells5 bytes5 agg5 ok5 zero6 zeros6 cells6 bytes6 agg6 ok6 zero7 zeros7 cells7 bytes7 agg7 ok7 zero8 zeros8 cells8 bytes8 agg8 ok8 zero9 zeros9 cells9 bytes9 agg9 ok9 zero10 zeros10 cells10 bytes10 agg10 ok10 zero11 zeros11 cells11 bytes11 agg11 ok11 zero12 zeros12 cells12 bytes12 agg12 ok12 zero13 zeros13 cells13 bytes13 agg13 ok13 zero14 zeros14 cells14 bytes14 agg14 ok14 zero15 zeros15 cells15 bytes15 agg15 ok15 zero16 zeros16 cells16 bytes16 agg16 ok16 zero17 zeros17 cells17 bytes17 agg17 ok17 zero18 zeros18 cells18 bytes18 agg18 ok18 zero19 zeros19 cells19 bytes19 agg19 ok19 zero20 zeros20 cells20 bytes20 agg20 ok20 zero21 zeros21 cells21 bytes21 agg21 ok21 zero22 zeros22 cells22 bytes22 agg22 ok22 zero23 zeros23 cells23 bytes23 agg23 ok23 zero24 zeros24 cells24 bytes24 agg24 ok24 zero25 zeros25 cells25 bytes25 agg25 ok25 zero26 zeros26 cells26 bytes26 agg26 ok26 zero27 zeros27 cells27 bytes27 agg27 ok27 zero28 zeros28 cells28 bytes28 agg28 ok28 zero29 zeros29 cells29 bytes29 agg29 ok29 zero30 zeros30 cells30 bytes30 agg30 ok30 zero31 zeros31 cells31 bytes31 agg31 ok31 cells32 bytes32 agg32 ok32 zero33 zeros33 cells33 bytes33 agg33 ok33 zero34 zeros34 cells34 bytes34 agg34 ok34 zero35 zeros35 cells35 bytes35 agg35 ok35 zero36 zeros36 cells36 bytes36 agg36 ok36 zero37 zeros37 cells37 bytes37 agg37 ok37 zero38 zeros38 cells38 bytes38 agg38 ok38 cells39 bytes39 agg39 ok39 zero40 zeros40 cells40 bytes40 agg40 ok40 zero41 zeros41 cells41 bytes41 agg41 ok41 zero42 zeros42 cells42 bytes42 agg42 ok42 zero43 zeros43 cells43 bytes43 agg43 ok43 zero44 zeros44 cells44 bytes44 agg44 ok44 zero45 zeros45 cells45 bytes45 agg45 ok45 zero46 zeros46 cells46 bytes46 agg46 ok46 zero47 zeros47 cells47 bytes47 agg47 ok47 zero48 zeros48 cells48 bytes48 agg48 ok48 zero49 zeros49 cells49 bytes49 agg49 ok49 zero50 zeros50 cells50 bytes50 agg50 ok50 zero51 zeros51 cells51 bytes51 agg51 ok51 zero52 zeros52 cells52 bytes52 agg52 ok52 zero53 zeros53 cells53 bytes53 agg53 ok53 zero54 zeros54 cells54 bytes54 agg54 ok54 zero55 zeros55 cells55 bytes55 agg55 ok55 zero56 zeros56 cells56 bytes56 agg56 ok56 cells57 bytes57 agg57 ok57 zero58 zeros58 cells58 bytes58 agg58 ok58 zero59 zeros59 cells59 bytes59 agg59 ok59 zero60 zeros60 cells60 bytes60 agg60 ok60 cells61 bytes61 agg61 ok61 zero62 zeros62 cells62 bytes62 agg62 ok62 zero63 zeros63 cells63 bytes63 agg63 ok63 zero64 zeros64 cells64 bytes64 agg64 ok64 zero65 zeros65 cells65 bytes65 agg65 ok65 zero66 zeros66 cells66 bytes66 agg66 ok66 zero67 zeros67 cells67 bytes67 agg67 ok67 zero68 zeros68 cells68 bytes68 agg68 ok68 cells69 bytes69 agg69 ok69 zero70 zeros70 cells70 bytes70 agg70 ok70 zero71 zeros71 cells71 bytes71 agg71 ok71 zero72 zeros72 cells72 bytes72 agg72 ok72 zero73 zeros73 cells73 bytes73 agg73 ok73 zero74 zeros74 cells74 bytes74 agg74 ok74 zero75 zeros75 cells75 bytes75 agg75 ok75 cells76 bytes76 agg76 ok76 zero77 zeros77 cells77 bytes77 agg77 ok77 zero78 zeros78 cells78 bytes78 agg78 ok78 zero79 zeros79 cells79 bytes79 agg79 ok79 zero80 zeros80 cells80 bytes80 agg80 ok80 zero81 zeros81 cells81 bytes81 agg81 ok81 zero82 zeros82 cells82 bytes82 agg82 ok82 zero83 zeros83 cells83 bytes83 agg83 ok83 zero84 zeros84 zero85 zeros85 zero86 zeros86 zero87 zeros87 cells87 bytes87 agg87 ok87 zero88 zeros88 cells88 bytes88 agg88 ok88 zero89 zeros89 cells89 bytes89 agg89 ok89 zero90 zeros90 cells90 bytes90 agg90 ok90 zero91 zeros91 cells91 bytes91 agg91 ok91 zero92 zeros92 cells92 bytes92 agg92 ok92 zero93 zeros93 cells93 bytes93 agg93 ok93 zero94 zeros94 cells94 bytes94 agg94 ok94 zero95 zeros95 cells95 bytes95 agg95 ok95 zero96 zeros96 cells96 bytes96 agg96 ok96 place26 place36 place43 place52 place56 place60 place47
theorem eqT36 : env.eqT 36 = some [.int .i64, .int .i64, .int .i64] := rfl
theorem eqT43 : env.eqT 43 = some [.int .i64, .int .i64] := rfl
theorem eqT52 : env.eqT 52 = some [.int .i64, .int .i64] := rfl
theorem eqT56 : env.eqT 56 = some [.int .i64, .int .i64, .int .i64, .int .i64, .int .i64, .int .i64, .bool, .bool, .bool] := rfl
attribute [go_sem] eqT36 eqT43 eqT52 eqT56
theorem eqOk36 : EqOk Try.prog 36 [.int .i64, .int .i64, .int .i64] := eqOk_of (by kernel_rfl) (by kernel_rfl) (by kernel_rfl) (by kernel_rfl)
theorem eqOk43 : EqOk Try.prog 43 [.int .i64, .int .i64] := eqOk_of (by kernel_rfl) (by kernel_rfl) (by kernel_rfl) (by kernel_rfl)
theorem eqOk52 : EqOk Try.prog 52 [.int .i64, .int .i64] := eqOk_of (by kernel_rfl) (by kernel_rfl) (by kernel_rfl) (by kernel_rfl)
theorem eqOk56 : EqOk Try.prog 56 [.int .i64, .int .i64, .int .i64, .int .i64, .int .i64, .int .i64, .bool, .bool, .bool] := eqOk_of (by kernel_rfl) (by kernel_rfl) (by kernel_rfl) (by kernel_rfl)
theorem envEq : EnvEq Try.prog env := ⟨fun t ks h => lk_all (lk := lk1) (p := fun t ks => EqOk Try.prog t ks) (fun _ => rfl) (fun _ _ _ _ => rfl) eqT (by intro q hq; simp only [eqT, List.mem_cons, List.not_mem_nil, or_false] at hq; rcases hq with rfl | rfl | rfl | rfl <;> first | exact eqOk36 | exact eqOk43 | exact eqOk52 | exact eqOk56) t ks h⟩
theorem envOk : EnvOk Try.prog env := ⟨envEq, fun g hh h => by cases h⟩
theorem envLoc : ∀ g hh, env.intr g = some hh → ∀ args nk, Local fun S => hh args S nk := fun g hh h => by cases h
theorem allFuncs {p : Nat → Func → Bool} (h : ((List.range Try.prog.funcs.size).all fun g => match Try.prog.funcs[g]? with | some fn => p g fn | none => true) = true) (g : Nat) (fn : Func) (hf : Try.prog.funcs[g]? = some fn) : p g fn = true := by
  have h1 := List.all_eq_true.1 h g (List.mem_range.2 (Array.getElem?_eq_some_iff.1 hf).1)
  rw [hf] at h1
  exact h1
theorem envCode : ∀ (g : Nat) fn c, Try.prog.funcs[g]? = some fn → fn.body = some c → codeOk (env.reg g) c = true := by
  intro g fn c hf hb
  have := allFuncs (p := fun g fn => match fn.body with | some c => codeOk (env.reg g) c | none => true) (by kernel_rfl) g fn hf
  rw [hb] at this
  exact this
theorem envName : ∀ (g : Nat) fn, Try.prog.funcs[g]? = some fn → fn.name ≠ "runtime.NumGoroutine" := by
  intro g fn hf
  have := allFuncs (p := fun g fn => decide (fn.name ≠ "runtime.NumGoroutine")) (by kernel_rfl) g fn hf
  simpa using this
theorem envAll : EnvAll Try.prog env := ⟨envOk, envLoc, by kernel_rfl, envCode, envName⟩
theorem own : ownKnob Try.prog.godebug = none := by kernel_rfl
theorem laidOut : laidOutB Try.prog = true := by kernel_rfl
end Go.Proofs.Yticdhmcbooabaaa
