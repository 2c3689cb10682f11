/- V23: how a call ends. No claim. -/
import Derived.Test.YticdhmcbooabaaaDoor22
set_option linter.unusedVariables false
set_option linter.unusedSimpArgs false
namespace Go.Proofs.YticdhmcbooabaaaDoor.V
open Go

theorem norm_int (k : IntKind) (n : Int) : norm (.int k n) = .int k n := rfl
theorem norm_bool (b : Bool) : norm (.bool b) = .bool b := rfl
theorem norm_str (s : List UInt8) : norm (.str s) = .str s := rfl
theorem norm_sl (xs : List PV) : norm (.sl xs) = .sl xs := rfl
theorem norm_agg1 (cs : List PV) : norm (.agg cs) = .agg (cs.map norm1) := rfl
theorem norm1_int (k : IntKind) (n : Int) : norm1 (.int k n) = .int k n := rfl
theorem norm1_bool (b : Bool) : norm1 (.bool b) = .bool b := rfl
theorem norm1_str (s : List UInt8) : norm1 (.str s) = .str s := rfl
theorem norm1_sl (xs : List PV) : norm1 (.sl xs) = .sl xs := rfl
theorem norm1_nil : norm1 (.opq (.slice none 0 0)) = .sl [] := rfl

/-- A value of numbers, bools and texts alone: nothing in memory. -/
def flat : PV → Bool
  | .int .. | .bool _ | .str _ => true
  | _ => false

section
variable {P : Program} {sl : Slots} {S : Store} {m m' : Bool}

theorem out_plain {t : Nat} {x : PV} (hg : get sl t = some (.pure m x)) : outV P 0 [.tmp t] sl S = some (.pure m (norm x), []) := by
  simp only [outV, resAll, resOne, hg, back, single, leave, List.range_zero, refs, List.nil_append]
  simp [reach, takeAll, reset, rowOf, ren, get]

theorem out_two {t t' : Nat} {x y : PV} (hg : get sl t = some (.pure m x)) (hg' : get sl t' = some (.pure m' y)) : outV P 0 [.tmp t, .tmp t'] sl S = some (.tuple [.pure m (norm x), .pure m' (norm y)], []) := by
  simp only [outV, resAll, resOne, hg, hg', back, single, leave, List.range_zero, refs, refsL, List.nil_append]
  simp [reach, takeAll, reset, rowOf, ren, renL, get]

theorem out_three {t t' t2 : Nat} {x y z : PV} {m2 : Bool} (hg : get sl t = some (.pure m x)) (hg' : get sl t' = some (.pure m' y)) (hg2 : get sl t2 = some (.pure m2 z)) : outV P 0 [.tmp t, .tmp t', .tmp t2] sl S = some (.tuple [.pure m (norm x), .pure m' (norm y), .pure m2 (norm z)], []) := by
  simp only [outV, resAll, resOne, hg, hg', hg2, back, single, leave, List.range_zero, refs, refsL, List.nil_append]
  simp [reach, takeAll, reset, rowOf, ren, renL, get]

theorem end_int {t : Nat} {k : IntKind} {a b : Int} (hg : get sl t = some (.pure m (.int k a))) (h : a = b) : outV P 0 [.tmp t] sl S = some (.pure m (.int k b), []) := by subst h; exact out_plain hg
theorem end_bool {t : Nat} {a b : Bool} (hg : get sl t = some (.pure m (.bool a))) (h : a = b) : outV P 0 [.tmp t] sl S = some (.pure m (.bool b), []) := by subst h; exact out_plain hg
theorem end_str {t : Nat} {a b : List UInt8} (hg : get sl t = some (.pure m (.str a))) (h : a = b) : outV P 0 [.tmp t] sl S = some (.pure m (.str b), []) := by subst h; exact out_plain hg
theorem end_pv {t : Nat} {x y : PV} (hg : get sl t = some (.pure m x)) (h : norm x = y) : outV P 0 [.tmp t] sl S = some (.pure m y, []) := by subst h; exact out_plain hg
theorem end_pv2 {t t' : Nat} {x y x' y' : PV} (hg : get sl t = some (.pure m x)) (hg' : get sl t' = some (.pure m' x')) (h : norm x = y) (h' : norm x' = y') : outV P 0 [.tmp t, .tmp t'] sl S = some (.tuple [.pure m y, .pure m' y'], []) := by subst h h'; exact out_two hg hg'

theorem row_back {S' : Store} {k : Nat} {z lim : Nat} {xs : List PV} (hk : get S' k = some (.row m z lim xs)) : reach (get S') 256 [k] [] = [k] := by
  simp [reach, hk, refsO]

/-- A row of plain values that is handed back. -/
theorem end_row {t k n z lim : Nat} {xs : List PV} (hg : get sl t = some (.row k n)) (hk : get S k = some (.row m z lim xs)) (hn : n = xs.length) (hs : allScalar xs = true) : outV P 0 [.tmp t] sl S = some (.row 0 n, [(0, .row true z 0 xs)]) := by
  simp only [outV, resAll, resOne, hg, back, single, leave, List.range_zero, refs, List.nil_append, row_back hk]
  simp [takeAll, idx, ren, hk, renO, reset, rowOf, hn, hs]

theorem end_row2 {t t' k n z lim : Nat} {xs : List PV} {x y : PV} (hg : get sl t = some (.row k n)) (hg' : get sl t' = some (.pure m' x)) (hk : get S k = some (.row m z lim xs)) (hn : n = xs.length) (hs : allScalar xs = true) (hx : norm x = y) (hy : y.scalar = true) :
    outV P 0 [.tmp t, .tmp t'] sl S = some (.tuple [.row 0 n, .pure m' y], [(0, .row true z 0 xs)]) := by
  subst hx
  simp only [outV, resAll, resOne, hg, hg', back, single, leave, List.range_zero, refs, refsL, List.nil_append, List.append_nil, row_back hk]
  simp [takeAll, idx, ren, renL, hk, renO, reset, rowOf, hn, hs, hy, plainV]

/-- One of others. -/
theorem end_rowM {t k n z lim : Nat} {xs : List PV} (hg : get sl t = some (.row k n)) (hk : get S k = some (.row m z lim xs)) (hs : allScalar xs = false) : outV P 0 [.tmp t] sl S = some (.row 0 n, [(0, .row m z lim xs)]) := by
  simp only [outV, resAll, resOne, hg, back, single, leave, List.range_zero, refs, List.nil_append, row_back hk]
  simp [takeAll, idx, ren, hk, renO, reset, rowOf, hs]
end
attribute [go_sem] norm_int norm_bool norm_str norm_sl norm_agg1 norm1_int norm1_bool norm1_str norm1_sl norm1_nil
theorem bytesOf_join (s t : List UInt8) : bytesOf s ++ bytesOf t = bytesOf (s ++ t) := (bytesOf_append s t).symm
theorem wrap_u8n {x : Nat} (h : x < 256) : IntKind.u8.wrap (x : Int) = x := wrap_u8 (by omega) (by omega)
theorem wrap_u16n {x : Nat} (h : x < 65536) : IntKind.u16.wrap (x : Int) = x := wrap_u16 (by omega) (by omega)
theorem wrap_u32n {x : Nat} (h : x < 4294967296) : IntKind.u32.wrap (x : Int) = x := wrap_u32 (by omega) (by omega)
theorem wrap_u64n {x : Nat} (h : x < 18446744073709551616) : IntKind.u64.wrap (x : Int) = x := wrap_u64 (by omega) (by omega)
theorem wrap_i64n {x : Nat} (h : x < 9223372036854775808) : IntKind.i64.wrap (x : Int) = x := wrap_i64 (by omega) (by omega)
theorem nat_eq {a b : Nat} (h : a = b) : (a = b) = True := eq_true h
theorem nat_ne {a b : Nat} (h : a ≠ b) : (a = b) = False := eq_false h
theorem one_add (n : Nat) : 1 + n = n + 1 := Nat.add_comm 1 n
theorem ile_true {a b : Int} (h : a ≤ b) : (a ≤ b) = True := eq_true h
theorem ilt_true {a b : Int} (h : a < b) : (a < b) = True := eq_true h
theorem ile_false {a b : Int} (h : b < a) : (a ≤ b) = False := eq_false (by omega)
theorem ilt_false {a b : Int} (h : b ≤ a) : (a < b) = False := eq_false (by omega)
theorem int_eq {a b : Int} (h : a = b) : (a = b) = True := eq_true h
theorem int_ne {a b : Int} (h : a ≠ b) : (a = b) = False := eq_false h
theorem int_beq {a b : Int} (h : a = b) : (a == b) = true := by simp [h]
theorem int_bne {a b : Int} (h : a ≠ b) : (a == b) = false := by simp [h]
theorem int_beq' {a b : Int} (h : a = b) : (a != b) = false := by simp [h]
theorem int_bne' {a b : Int} (h : a ≠ b) : (a != b) = true := by simp [h]
def dstOf : List Oper → Nat → Option Nat
  | [], _ => none
  | o :: _, 0 => o.dst
  | _ :: r, n + 1 => dstOf r n
theorem dstOf_eq : ∀ (l : List Oper) (j : Nat), (l[j]?).bind (·.dst) = dstOf l j := by
  intro l
  induction l with
  | nil => intro j; rfl
  | cons o r ih => intro j; cases j with
    | zero => rfl
    | succ j => exact ih j
def yieldAt (d : Option Nat) (s : Nat → Option SV) (b : Bool) : Option Bool := match d with
  | some d => yieldB (s d) b
  | none => none
theorem y_eq (l : List Oper) (s : Nat → Option SV) (j : Nat) (b : Bool) : yieldedV l.toArray s j b = yieldAt (dstOf l j) s b := by
  rw [← dstOf_eq]
  unfold yieldedV yieldAt yieldB
  rw [List.getElem?_toArray]
  generalize (l[j]?).bind (·.dst) = d
  cases d with
  | none => rfl
  | some d =>
    simp only
    split <;> simp_all
theorem yA_some (d : Nat) (s : Nat → Option SV) (b : Bool) : yieldAt (some d) s b = yieldB (s d) b := rfl
theorem dst_0 (o : Oper) (l : List Oper) : dstOf (o :: l) 0 = o.dst := rfl
theorem dst_s (o : Oper) (l : List Oper) (n : Nat) : dstOf (o :: l) (n + 1) = dstOf l n := rfl
/-- The rune at a place of a text, and how wide it is. -/
def decd (s : List UInt8) (pos : Nat) : Nat × Nat := Utf8.decode ⟨s.toArray⟩ pos
def nextO (ob : Option Ob) (k : Nat) : Option Eff := match ob with
  | some (.iter s pos) => if pos < s.length then
      some { res := .tuple [.pure true (.bool true), .pure true (.int .i64 pos), .pure true (.int .i32 (decd s pos).1)], wr := [(k, .iter s (pos + (decd s pos).2))], rd := some [k] }
    else some { res := .tuple [.pure true (.bool false)], rd := some [k] }
  | _ => none
theorem next_iter (look : Nat → Option Ob) (k : Nat) : nextV look (.iter k) = nextO (look k) k := by
  unfold nextV nextO
  simp only
  generalize look k = ob
  cases ob with
  | none => rfl
  | some o => cases o <;> rfl
theorem nextO_in {s : List UInt8} {pos k : Nat} (h : pos < s.length) : nextO (some (.iter s pos)) k = some { res := .tuple [.pure true (.bool true), .pure true (.int .i64 pos), .pure true (.int .i32 (decd s pos).1)], wr := [(k, .iter s (pos + (decd s pos).2))], rd := some [k] } := if_pos h
theorem nextO_out {s : List UInt8} {pos k : Nat} (h : s.length ≤ pos) : nextO (some (.iter s pos)) k = some { res := .tuple [.pure true (.bool false)], rd := some [k] } := if_neg (by omega)
theorem nat_nn (n : Nat) : (0 ≤ (n : Int)) = True := eq_true (by omega)
theorem nat_nl (n : Nat) : ((n : Int) < 0) = False := eq_false (by omega)
theorem row_1 (m : Bool) (z lim : Nat) (c : UInt8) : Ob.row m z lim [PV.int .u8 (c.toNat : Int)] = Ob.row m z lim (bytesOf [c]) := rfl
theorem row_2 (m : Bool) (z lim : Nat) (c d : UInt8) : Ob.row m z lim [PV.int .u8 (c.toNat : Int), PV.int .u8 (d.toNat : Int)] = Ob.row m z lim (bytesOf [c, d]) := rfl
theorem tmod_l (a b : Nat) : ((a : Int)).tmod (no_index (OfNat.ofNat b : Int)) = ((a % (OfNat.ofNat b) : Nat) : Int) := tmod_nat a b
theorem tdiv_l (a b : Nat) : ((a : Int)).tdiv (no_index (OfNat.ofNat b : Int)) = ((a / (OfNat.ofNat b) : Nat) : Int) := tdiv_nat a b
theorem at_0 {α : Type} (a : α) (l : List α) : (a :: l)[0]? = some a := rfl
theorem at_1 {α : Type} (a b : α) (l : List α) : (a :: b :: l)[1]? = some b := rfl
theorem at_2 {α : Type} (a b c : α) (l : List α) : (a :: b :: c :: l)[2]? = some c := rfl
theorem at_3 {α : Type} (a b c d : α) (l : List α) : (a :: b :: c :: d :: l)[3]? = some d := rfl
theorem at_4 {α : Type} (a b c d e : α) (l : List α) : (a :: b :: c :: d :: e :: l)[4]? = some e := rfl
theorem at_n {α : Type} : ([] : List α)[0]? = none := rfl
theorem at_n1 {α : Type} (a : α) : [a][1]? = none := rfl
theorem le_true {a b : Nat} (h : a ≤ b) : (a ≤ b) = True := eq_true h
theorem lt_true {a b : Nat} (h : a < b) : (a < b) = True := eq_true h
theorem le_false {a b : Nat} (h : b < a) : (a ≤ b) = False := eq_false (by omega)
theorem lt_false {a b : Nat} (h : b ≤ a) : (a < b) = False := eq_false (by omega)
attribute [go_sem] tmod_l tdiv_l row_1 row_2 nat_nn nat_nl Option.map_some Option.map_none next_iter nextO_in nextO_out y_eq yA_some dst_0 dst_s one_add wrap_u8n wrap_u16n wrap_u32n wrap_u64n wrap_i64n nat_eq nat_ne bytesOf_join bytesOf_take bytesOf_drop strOf_bytesOf allScalar_bytesOf allW_bytesOf V.get_nil at_0 at_1 at_2 at_3 at_4 at_n at_n1 le_true lt_true le_false lt_false List.getElem?_toArray buildSliceV elemsV freezeN freeze over appendV readS indexAddrV loadV storeV sliceT tailQ headQ keepTails keepHeads clearV sliceV bound intOf indexV ofCells PV.cells PV.isAgg PV.scalar extractV copyV makeSliceV rangeV allScalar isNilV isNilP isSeqD isStrV convertV lenV callB isNilOp allW fieldAddrV fieldV stands arrayAtV nilCheckV
end Go.Proofs.YticdhmcbooabaaaDoor.V
