/- V22: the calculus' rules as one set; bytes; calls. No claim. -/
import Derived.Test.YticdhmcbooabaaaDoor21
set_option linter.unusedVariables false
set_option linter.unusedSimpArgs false
namespace Go.Proofs.YticdhmcbooabaaaDoor.V
open Go

theorem wrap_u8 {x : Int} (h0 : 0 ≤ x) (h1 : x < 256) : IntKind.u8.wrap x = x := by
  simp [IntKind.wrap, IntKind.bits, IntKind.signed]; omega
theorem wrap_u16 {x : Int} (h0 : 0 ≤ x) (h1 : x < 65536) : IntKind.u16.wrap x = x := by
  simp [IntKind.wrap, IntKind.bits, IntKind.signed]; omega
theorem wrap_u32 {x : Int} (h0 : 0 ≤ x) (h1 : x < 4294967296) : IntKind.u32.wrap x = x := by
  simp [IntKind.wrap, IntKind.bits, IntKind.signed]; omega
theorem wrap_u64 {x : Int} (h0 : 0 ≤ x) (h1 : x < 18446744073709551616) : IntKind.u64.wrap x = x := by
  simp [IntKind.wrap, IntKind.bits, IntKind.signed]; omega
theorem wrap_i32 {x : Int} (h0 : -2147483648 ≤ x) (h1 : x < 2147483648) : IntKind.i32.wrap x = x := by
  simp [IntKind.wrap, IntKind.bits, IntKind.signed]; omega
theorem wrap_i64 {x : Int} (h0 : -9223372036854775808 ≤ x) (h1 : x < 9223372036854775808) : IntKind.i64.wrap x = x := by
  simp [IntKind.wrap, IntKind.bits, IntKind.signed]; omega
theorem tmod_nn {a b : Int} (h : 0 ≤ a) : a.tmod b = a % b := Int.tmod_eq_emod_of_nonneg h
theorem tdiv_nn {a b : Int} (h : 0 ≤ a) : a.tdiv b = a / b := Int.tdiv_eq_ediv_of_nonneg h

theorem tmod_nat (a b : Nat) : ((a : Int)).tmod (b : Int) = ((a % b : Nat) : Int) := by rw [Int.tmod_eq_emod_of_nonneg (by omega), Int.natCast_emod]
theorem tdiv_nat (a b : Nat) : ((a : Int)).tdiv (b : Int) = ((a / b : Nat) : Int) := by rw [Int.tdiv_eq_ediv_of_nonneg (by omega), Int.natCast_ediv]
theorem tmod_lit (a b : Nat) : ((a : Int)).tmod (OfNat.ofNat b : Int) = ((a % OfNat.ofNat b : Nat) : Int) := tmod_nat a b
theorem tdiv_lit (a b : Nat) : ((a : Int)).tdiv (OfNat.ofNat b : Int) = ((a / OfNat.ofNat b : Nat) : Int) := tdiv_nat a b

/-! ### bytes -/
theorem bytesOf_nil : bytesOf [] = [] := rfl
theorem bytesOf_cons (b : UInt8) (s : List UInt8) : bytesOf (b :: s) = .int .u8 b.toNat :: bytesOf s := rfl
theorem bytesOf_append (s t : List UInt8) : bytesOf (s ++ t) = bytesOf s ++ bytesOf t := by simp [bytesOf]
theorem bytesOf_length (s : List UInt8) : (bytesOf s).length = s.length := by simp [bytesOf]
theorem bytesOf_take (s : List UInt8) (n : Nat) : (bytesOf s).take n = bytesOf (s.take n) := by simp [bytesOf]
theorem bytesOf_drop (s : List UInt8) (n : Nat) : (bytesOf s).drop n = bytesOf (s.drop n) := by simp [bytesOf]
theorem bytesOf_get (s : List UInt8) (i : Nat) : (bytesOf s)[i]? = (s[i]?).map fun b => PV.int .u8 b.toNat := by simp [bytesOf]
theorem strOf_bytesOf (s : List UInt8) : strOf (bytesOf s) = some s := by
  induction s with
  | nil => rfl
  | cons b r ih =>
    show (match strOf (bytesOf r) with | some l => some (UInt8.ofNat (b.toNat : Int).toNat :: l) | none => none) = _
    rw [ih]
    simp
theorem allScalar_bytesOf (s : List UInt8) : allScalar (bytesOf s) = true := by
  induction s with
  | nil => rfl
  | cons b r ih => exact ih
theorem allW_bytesOf (s : List UInt8) : allW 1 (bytesOf s) = true := by
  induction s with
  | nil => rfl
  | cons b r ih =>
    show (decide ((PV.int .u8 b.toNat).cells.length = 1) && allW 1 (bytesOf r)) = true
    rw [ih]
    rfl
theorem bytesOf_one (b : UInt8) : [PV.int .u8 b.toNat] = bytesOf [b] := rfl
theorem bytesOf_inj {s t : List UInt8} (h : bytesOf s = bytesOf t) : s = t := by
  have h1 := strOf_bytesOf s
  rw [h, strOf_bytesOf] at h1
  exact (Option.some.inj h1).symm
theorem u8_lt (b : UInt8) : (b.toNat : Int) < 256 := by have := b.toNat_lt; omega
theorem u8_nn (b : UInt8) : (0 : Int) ≤ (b.toNat : Int) := by omega

section
variable {P : Program} {E : Env} {base : Nat} {o : Oper} {ev : Operand → SV} {look : Nat → Option Ob} {K : Eff → Prop}

/-- A call that hands back plain values alone, and to which no row is handed. -/
theorem wpAct_call0 {c : Call} {f : Operand} {g : FuncId} {caps as : List SV} {res : SV}
    (hr : Runs P E g as [] res []) (ho : o.op = .call c) (hc : c.callee = .value f) (hf : ev f = .clo g caps) (hi : E.intr g = none) (ha : argV base (E.byRef g) look (c.args.toList.map ev ++ caps) = some (as, [])) (hn : refsL as = []) (hs : refs res = [])
    (hk : freshKeys look (base + 16 * (o.dst.getD 0)) 16 = true)
    (h : K { res := res, wr := [], rd := some ((List.range 16).map (base + 16 * (o.dst.getD 0) + ·) ++ refsL (c.args.toList.map ev ++ caps)) }) : wpAct P E base o ev look K := by
  refine wpAct_call hr ho hc hf hi ha hn (by simp [hk]) ?_
  rw [ren_id _ _ hs]
  cases hw : (newV res && ([] : Store).all fun p => newO p.2) <;> simpa [backAll] using h

/-- The same, of rows that are handed in: they stay as they are from now on. -/
theorem wpAct_callF {c : Call} {f : Operand} {g : FuncId} {caps as : List SV} {δ : Store} {res : SV}
    (hr : Runs P E g as [] res []) (ho : o.op = .call c) (hc : c.callee = .value f) (hf : ev f = .clo g caps) (hi : E.intr g = none) (ha : argV base (E.byRef g) look (c.args.toList.map ev ++ caps) = some (as, δ)) (hn : refsL as = []) (hs : newV res = true) (hs' : refs res = [])
    (hk : freshKeys look (base + 16 * (o.dst.getD 0)) 16 = true)
    (h : K { res := res, wr := [], rd := some ((List.range 16).map (base + 16 * (o.dst.getD 0) + ·) ++ refsL (c.args.toList.map ev ++ caps)) }) : wpAct P E base o ev look K := by
  refine wpAct_call hr ho hc hf hi ha hn (by simp [hk]) ?_
  rw [ren_id _ _ hs']
  simpa [backAll, hs] using h

/-- A call that hands back a row of its own. -/
theorem wpAct_callR {c : Call} {f : Operand} {g : FuncId} {caps as : List SV} {δ : Store} {n z : Nat} {xs : List PV}
    (hr : Runs P E g as [] (.row 0 n) [(0, .row true z 0 xs)]) (ho : o.op = .call c) (hc : c.callee = .value f) (hf : ev f = .clo g caps) (hi : E.intr g = none) (ha : argV base (E.byRef g) look (c.args.toList.map ev ++ caps) = some (as, δ)) (hn : refsL as = [])
    (hk : freshKeys look (base + 16 * (o.dst.getD 0)) 16 = true)
    (h : K { res := .row (base + 16 * (o.dst.getD 0)) n, wr := [(base + 16 * (o.dst.getD 0), .row true z 0 xs)], rd := some ((List.range 16).map (base + 16 * (o.dst.getD 0) + ·) ++ refsL (c.args.toList.map ev ++ caps)) }) : wpAct P E base o ev look K := by
  refine wpAct_call hr ho hc hf hi ha hn (by simp [hk]) ?_
  simpa [backAll, ren, newV, newO, get, renO, List.range_succ] using h

/-- One that hands back a row of its own and a plain value. -/
theorem wpAct_callR2 {c : Call} {f : Operand} {g : FuncId} {caps as : List SV} {δ : Store} {n z : Nat} {xs : List PV} {m : Bool} {y : PV}
    (hr : Runs P E g as [] (.tuple [.row 0 n, .pure m y]) [(0, .row true z 0 xs)]) (ho : o.op = .call c) (hc : c.callee = .value f) (hf : ev f = .clo g caps) (hi : E.intr g = none) (ha : argV base (E.byRef g) look (c.args.toList.map ev ++ caps) = some (as, δ)) (hn : refsL as = []) (hy : y.scalar = true)
    (hk : freshKeys look (base + 16 * (o.dst.getD 0)) 16 = true)
    (h : K { res := .tuple [.row (base + 16 * (o.dst.getD 0)) n, .pure m y], wr := [(base + 16 * (o.dst.getD 0), .row true z 0 xs)], rd := some ((List.range 16).map (base + 16 * (o.dst.getD 0) + ·) ++ refsL (c.args.toList.map ev ++ caps)) }) : wpAct P E base o ev look K := by
  refine wpAct_call hr ho hc hf hi ha hn (by simp [hk]) ?_
  simpa [backAll, ren, renL, newV, newL, newO, get, renO, List.range_succ, hy] using h

/-- What is handed back, where no memory is left. -/
theorem end_one {n0 : Nat} {t : Nat} {sl : Slots} {S : Store} {m : Bool} {x : PV} {m' : Bool} {y : PV} (hg : get sl t = some (.pure m x)) (hy : SV.pure m' y = .pure m (norm x)) (hn : n0 = 0) : outV P n0 [.tmp t] sl S = some (.pure m' y, []) := by
  subst hn
  simp only [outV, resAll, resOne, hg, back, single, leave, List.range_zero, refs, List.nil_append, hy]
  simp [reach, takeAll, reset, rowOf, ren, get]
end

attribute [go_sem] x_skip x_label x_region x_seq x_block x_exit x_ret x_loop t_normal t_exit t_ret bl_normal bl_exit bl_ret p_nil p_cons p_consn o_nil o_cons o_consn condV_bool guard_some yB_bool yB_undef
  a_move a_assign a_pick a_alloc a_box a_build a_buildSlice a_load a_store a_nilCheck a_binOp a_unOp a_convert a_arrayAt a_makeFunc a_makeMap a_makeSlice a_slice a_fieldAddr a_field a_indexAddr a_index a_lookup a_mapUpdate a_insert a_range a_next a_extract a_builtin
  onSome_some onSome_one onSome_scal onSome_oneOf ev_tmp ev_int ev_bool ev_str ev_nil ev_func nilS_tmp nilS_int nilS_bool nilS_str nilS_nil nilS_func move_val pick_val
  b_add b_sub b_mul b_quo b_rem b_and b_or b_xor b_eql b_neq b_lss b_leq b_gtr b_geq b_shl b_shr b_sadd b_seql b_sneq b_slss b_beql b_bneq u_not u_neg
  V.get_cons argSlots kk_1 kk_2 kk_3 tmod_nat tdiv_nat tmod_lit tdiv_lit
end Go.Proofs.YticdhmcbooabaaaDoor.V
