/- V27: arguments; calls that hand back rows, and calls to which memory is handed; ends. No claim. -/
import Derived.Test.YticdhmcbooabaaaDoor26
set_option linter.unusedVariables false
set_option linter.unusedSimpArgs false
namespace Go.Proofs.YticdhmcbooabaaaDoor.V
open Go

/-! ### new memory -/
theorem move_nil (nk : Nat) (look : Nat → Option Ob) (x : SV) : moveV nk look true x = if (look nk).isNone = true then some { res := .row nk 0, wr := [(nk, .row true 0 0 [])], rd := some ((List.range 16).map (nk + ·)) } else
    match firstFree look (nk + 1) 15 with
    | some k => some { res := .row k 0, wr := [(k, .row true 0 0 [])], rd := some ((List.range 16).map (nk + ·)) }
    | none => none := by
  unfold moveV
  rw [if_pos rfl]
  rw [firstFree]
  by_cases h : (look nk).isNone = true
  · rw [if_pos h, if_pos h]
  · rw [if_neg h, if_neg h]
    generalize firstFree look (nk + 1) 15 = q
    cases q <;> rfl
theorem fk_none (n : Nat) : ∀ (nk : Nat), freshKeys (fun _ => none) nk n = true := by
  induction n with
  | zero => intro nk; rfl
  | succ n ih => intro nk; simp [freshKeys, ih]
theorem fk_nil (n nk : Nat) : freshKeys (get []) nk n = true := fk_none n nk
theorem fk_cons (k : Nat) (v : Ob) (S : Store) (n : Nat) : ∀ (nk : Nat), (k < nk ∨ nk + n ≤ k) → freshKeys (get ((k, v) :: S)) nk n = freshKeys (get S) nk n := by
  induction n with
  | zero => intro nk _; rfl
  | succ n ih =>
    intro nk h
    rw [freshKeys, freshKeys, ih (nk + 1) (by omega)]
    congr 2
    simp only [get]
    rw [if_neg (by omega)]
theorem placeV_of {P : Program} {t : TypeId} {fields : Array Field} {l : List (Nat × Nat)} (h : P.underlying t = some (.struct fields)) (ha : (fields.toList.all fun f => decide (0 < P.cellsOf f.type)) = true) (hl : (fields.toList.map fun f => (f.offset, P.cellsOf f.type)) = l) : placeV P t = some fun i => l[i]? := by
  subst hl
  unfold placeV
  rw [h]
  simp only
  rw [if_pos ha]
  congr 1
  funext i
  rw [List.getElem?_map, Array.getElem?_toList]
  cases fields[i]? <;> rfl
theorem placeV_arr {P : Program} {t e : TypeId} {n z : Nat} (h : P.underlying t = some (.array n e)) (hz : P.cellsOf e = z) (h0 : 0 < z) : placeV P t = some fun i => some (i * z, z) := by
  subst hz
  unfold placeV
  rw [h]
  simp only
  rw [if_pos h0]
attribute [go_sem] move_nil fk_none fk_nil fk_cons

theorem b_aggeql {P : Program} {E : Env} {t : TypeId} {m m' : Bool} {a b : List PV} : binV P E .eql t (.pure m (.agg a)) (.pure m' (.agg b)) = match E.eqT t with
    | some ks => if hasKc ks a && hasKc ks b then (match eqCells a b with | some r => some (.bool r) | none => none) else none
    | none => none := by
  unfold binV
  cases E.eqT t <;> rfl
theorem b_aggneq {P : Program} {E : Env} {t : TypeId} {m m' : Bool} {a b : List PV} : binV P E .neq t (.pure m (.agg a)) (.pure m' (.agg b)) = match E.eqT t with
    | some ks => if hasKc ks a && hasKc ks b then (match eqCells a b with | some r => some (.bool !r) | none => none) else none
    | none => none := by
  unfold binV
  cases E.eqT t <;> rfl
attribute [go_sem] b_aggeql b_aggneq

/-! ### arguments -/
theorem argV_nil {base : Nat} {br : Bool} {look : Nat → Option Ob} : argV base br look [] = some ([], []) := rfl
theorem argV_p {base : Nat} {br : Bool} {look : Nat → Option Ob} {v : SV} {r l : List SV} {δ : Store} (h : isRowV br v = false) (hr : argV base br look r = some (l, δ)) : argV base br look (v :: r) = some (dem v :: l, δ) := by
  rw [argV, if_neg (by simp [h]), hr]
theorem argV_r {base : Nat} {look : Nat → Option Ob} {k n : Nat} {r l : List SV} {δ : Store} {m : Bool} {z lim : Nat} {xs : List PV} (hk : look k = some (.row m z lim xs)) (hn : n = xs.length)
    (hr : argV base false (over [(k, .row m z (max lim n) xs)] look) r = some (l, δ)) : argV base false look (.row k n :: r) = some (.pure false (.sl xs) :: l, δ ++ [(k, .row m z (max lim n) xs)]) := by
  subst hn
  rw [argV, if_pos (by simp [isRowV])]
  simp only [freeze, hk, Nat.le_refl, if_true, List.take_length]
  rw [hr]

section
variable {P : Program} {E : Env} {base : Nat} {o : Oper} {ev : Operand → SV} {look : Nat → Option Ob} {K : Eff → Prop}

/-- A call that hands back one new row, somewhere in what it hands back. -/
theorem wpAct_callG {c : Call} {f : Operand} {g : FuncId} {caps as : List SV} {δ : Store} {z lim : Nat} {xs : List PV} {res res' : SV}
    (hr : Runs P E g as [] res [(0, .row true z lim xs)]) (ho : o.op = .call c) (hc : c.callee = .value f) (hf : ev f = .clo g caps) (hi : E.intr g = none) (ha : argV base (E.byRef g) look (c.args.toList.map ev ++ caps) = some (as, δ)) (hn : refsL as = [])
    (hnew : newV res = true) (hren : ren (fun i => if i = 0 then some (base + 16 * (o.dst.getD 0)) else none) res = res')
    (hk : freshKeys look (base + 16 * (o.dst.getD 0)) 16 = true)
    (h : K { res := res', wr := [(base + 16 * (o.dst.getD 0), .row true z lim xs)], rd := some ((List.range 16).map (base + 16 * (o.dst.getD 0) + ·) ++ refsL (c.args.toList.map ev ++ caps)) }) : wpAct P E base o ev look K := by
  refine wpAct_call hr ho hc hf hi ha hn (by simp [hk]) ?_
  have e1 : (fun i => ((List.range ([(0, Ob.row true z lim xs)] : Store).length).map (base + 16 * (o.dst.getD 0) + ·))[i]?) = fun i => if i = 0 then some (base + 16 * (o.dst.getD 0)) else none := by
    funext i
    cases i with
    | zero => simp [List.range_succ]
    | succ i => simp [List.range_succ]
  rw [e1, hren]
  simpa [backAll, newO, get, renO, List.range_succ, hnew] using h

/-- Two of them. -/
theorem wpAct_callGG {c : Call} {f : Operand} {g : FuncId} {caps as : List SV} {δ : Store} {z lim z1 lim1 : Nat} {xs xs1 : List PV} {res res' : SV}
    (hr : Runs P E g as [] res [(0, .row true z lim xs), (1, .row true z1 lim1 xs1)]) (ho : o.op = .call c) (hc : c.callee = .value f) (hf : ev f = .clo g caps) (hi : E.intr g = none) (ha : argV base (E.byRef g) look (c.args.toList.map ev ++ caps) = some (as, δ)) (hn : refsL as = [])
    (hnew : newV res = true) (hren : ren (fun i => if i = 0 then some (base + 16 * (o.dst.getD 0)) else if i = 1 then some (base + 16 * (o.dst.getD 0) + 1) else none) res = res')
    (hk : freshKeys look (base + 16 * (o.dst.getD 0)) 16 = true)
    (h : K { res := res', wr := [(base + 16 * (o.dst.getD 0), .row true z lim xs), (base + 16 * (o.dst.getD 0) + 1, .row true z1 lim1 xs1)], rd := some ((List.range 16).map (base + 16 * (o.dst.getD 0) + ·) ++ refsL (c.args.toList.map ev ++ caps)) }) : wpAct P E base o ev look K := by
  refine wpAct_call hr ho hc hf hi ha hn (by simp [hk]) ?_
  have e1 : (fun i => ((List.range ([(0, Ob.row true z lim xs), (1, Ob.row true z1 lim1 xs1)] : Store).length).map (base + 16 * (o.dst.getD 0) + ·))[i]?) = fun i => if i = 0 then some (base + 16 * (o.dst.getD 0)) else if i = 1 then some (base + 16 * (o.dst.getD 0) + 1) else none := by
    funext i
    match i with
    | 0 => simp [List.range_succ]
    | 1 => simp [List.range_succ]
    | i + 2 => simp [List.range_succ]
  rw [e1, hren]
  simpa [backAll, newO, get, renO, List.range_succ, hnew] using h

/-- A call to which memory is handed (the keys 'ks' that it leads to). -/
theorem wpAct_callS (ks : List Nat) {c : Call} {f : Operand} {g : FuncId} {caps as as' : List SV} {δ S0 S1 : Store} {res : SV}
    (hr : Runs P E g as' S0 res S1) (ho : o.op = .call c) (hc : c.callee = .value f) (hf : ev f = .clo g caps) (hi : E.intr g = none) (ha : argV base (E.byRef g) look (c.args.toList.map ev ++ caps) = some (as, δ)) (hn : (refsL as).isEmpty = false)
    (hks : reach (over δ look) 64 (refsL as) [] = ks) (has : renL (fun k => idx ks k 0) as = as') (hS : putAll (over δ look) (fun k => idx ks k 0) ks 0 = S0)
    (hk : (freshKeys look (base + 16 * (o.dst.getD 0)) 16 && decide (S1.length ≤ ks.length + 16)) = true)
    (h : K { res := ren (fun i => (ks ++ (List.range (S1.length - ks.length)).map (base + 16 * (o.dst.getD 0) + ·))[i]?) res,
             wr := backAll S1 (fun i => (ks ++ (List.range (S1.length - ks.length)).map (base + 16 * (o.dst.getD 0) + ·))[i]?) (ks ++ (List.range (S1.length - ks.length)).map (base + 16 * (o.dst.getD 0) + ·)) 0 ++ δ, rd := none }) : wpAct P E base o ev look K := by
  obtain ⟨n, hn'⟩ := hr
  refine ⟨n, _, ?_, h⟩
  subst hks has hS
  unfold act
  simp only [ho, hc, hf, hi]
  unfold callV
  rw [ha]
  simp only
  split
  · rename_i he
    rw [he] at hn
    cases hn
  · rename_i k0 rs he
    simp only [hn']
    rw [if_pos hk]

/-- An intrinsic. -/
theorem wpAct_intr {c : Call} {f : Operand} {g : FuncId} {caps : List SV} {hh : List SV → (Nat → Option Ob) → Nat → Option Eff} {e : Eff}
    (ho : o.op = .call c) (hc : c.callee = .value f) (hf : ev f = .clo g caps) (hi : E.intr g = some hh) (he : hh (c.args.toList.map ev ++ caps) look (base + 16 * (o.dst.getD 0)) = some e) (h : K e) : wpAct P E base o ev look K := by
  refine ⟨0, e, ?_, h⟩
  unfold act
  simp only [ho, hc, hf, hi]
  exact he

theorem clone_pure {z by_ nk : Nat} {m : Bool} {xs : List PV} (hk : look nk = none) (hw : allW z xs = true) (hs : xs.length * by_ ≤ 140737488355328) :
    cloneW z by_ [.pure m (.sl xs)] look nk = some { res := .row nk xs.length, wr := [(nk, .row (m || allScalar xs) z 0 xs)], rd := some [nk] } := by
  simp [cloneW, isStrV, readS, hw, hk, hs]
theorem clone_bytes {nk : Nat} {m : Bool} {d : List UInt8} (hk : look nk = none) (hs : d.length ≤ 140737488355328) :
    cloneW 1 1 [.pure m (.sl (bytesOf d))] look nk = some { res := .row nk d.length, wr := [(nk, .row true 1 0 (bytesOf d))], rd := some [nk] } := by
  rw [clone_pure hk (allW_bytesOf d) (by rw [bytesOf_length]; omega), bytesOf_length, allScalar_bytesOf, Bool.or_true]
theorem clone_rowB {nk k n z lim : Nat} {m : Bool} {d : List UInt8} (hk : look nk = none) (hr : look k = some (.row m z lim (bytesOf d))) (hz : z = 1 ∨ bytesOf d = []) (hn : n = d.length) (hs : d.length ≤ 140737488355328) :
    cloneW 1 1 [.row k n] look nk = some { res := .row nk d.length, wr := [(nk, .row true 1 0 (bytesOf d))], rd := some [nk, k] } := by
  subst hn
  simp [cloneW, isStrV, readS, hr, hk, hz, bytesOf_length, allScalar_bytesOf, hs]
end

/-! ### ends -/
theorem endV_ret (P : Program) (n0 : Nat) (rs : List ResultVar) (res : SV) (S1 : Store) (s : Slots) (S : Store) : endV P n0 rs res S1 .ret s S = (outV P n0 rs s S = some (res, S1)) := rfl
theorem endV_normal (P : Program) (n0 : Nat) (rs : List ResultVar) (res : SV) (S1 : Store) (s : Slots) (S : Store) : endV P n0 rs res S1 .normal s S = (outV P n0 rs s S = some (res, S1)) := rfl
section
variable {P : Program} {sl : Slots} {S : Store} {m m' : Bool}
theorem end_rowT {t k n z lim : Nat} {xs : List PV} (hg : get sl t = some (.row k n)) (hk : get S k = some (.row true z lim xs)) (hn : n = xs.length) : outV P 0 [.tmp t] sl S = some (.row 0 n, [(0, .row true z (if allScalar xs then 0 else lim) xs)]) := by
  simp only [outV, resAll, resOne, hg, back, single, leave, List.range_zero, refs, List.nil_append, row_back hk]
  cases hs : allScalar xs <;> simp [takeAll, idx, ren, hk, renO, reset, rowOf, hn, hs]

theorem end_rowT2 {t t' k n z lim : Nat} {xs : List PV} {x y : PV} (hg : get sl t = some (.row k n)) (hg' : get sl t' = some (.pure m' x)) (hk : get S k = some (.row true z lim xs)) (hn : n = xs.length) (hx : norm x = y) (hy : y.scalar = true) :
    outV P 0 [.tmp t, .tmp t'] sl S = some (.tuple [.row 0 n, .pure m' y], [(0, .row true z (if allScalar xs then 0 else lim) xs)]) := by
  subst hx
  simp only [outV, resAll, resOne, hg, hg', back, single, leave, List.range_zero, refs, refsL, List.nil_append, List.append_nil, row_back hk]
  cases hs : allScalar xs <;> simp [takeAll, idx, ren, renL, hk, renO, reset, rowOf, hn, hs, hy, plainV]

/-- The second one out of a cell. -/
theorem end_rowC2 {t a ty k kb off n z lim : Nat} {xs : List PV} {x y : PV} {e : Eff} (hg : get sl t = some (.row k n)) (hg' : get sl a = some (.ptr kb off)) (hl : loadV P 0 (get S) ty (.ptr kb off) = some e) (he : e.res = .pure m' x) (hw : e.wr = []) (hk : get S k = some (.row true z lim xs)) (hn : n = xs.length) (hx : norm x = y) (hy : y.scalar = true) :
    outV P 0 [.tmp t, .cell a ty] sl S = some (.tuple [.row 0 n, .pure m' y], [(0, .row true z (if allScalar xs then 0 else lim) xs)]) := by
  subst hx
  simp only [outV, resAll, resOne, hg, hg', List.nil_append, hl, he, hw, back, single, leave, List.range_zero, refs, refsL, List.append_nil, row_back hk]
  cases hs : allScalar xs <;> simp [takeAll, idx, ren, renL, hk, renO, reset, rowOf, hn, hs, hy, plainV]

theorem end_pv3 {t t' t2 : Nat} {x y z x' y' z' : PV} {m2 : Bool} (hg : get sl t = some (.pure m x)) (hg' : get sl t' = some (.pure m' y)) (hg2 : get sl t2 = some (.pure m2 z)) (h : norm x = x') (h' : norm y = y') (h2 : norm z = z') : outV P 0 [.tmp t, .tmp t', .tmp t2] sl S = some (.tuple [.pure m x', .pure m' y', .pure m2 z'], []) := by
  subst h h' h2
  exact out_three hg hg' hg2

/-- A value, a row, a value. -/
theorem end_vrv {t1 t2 t3 k n z lim : Nat} {xs : List PV} {x y x' y' : PV} (h1 : get sl t1 = some (.pure m x)) (h2 : get sl t2 = some (.row k n)) (h3 : get sl t3 = some (.pure m' y)) (hk : get S k = some (.row true z lim xs)) (hn : n = xs.length) (hx : norm x = x') (hy : norm y = y') (hxs : x'.scalar = true) (hys : y'.scalar = true) :
    outV P 0 [.tmp t1, .tmp t2, .tmp t3] sl S = some (.tuple [.pure m x', .row 0 n, .pure m' y'], [(0, .row true z (if allScalar xs then 0 else lim) xs)]) := by
  subst hx hy
  simp only [outV, resAll, resOne, h1, h2, h3, back, single, leave, List.range_zero, refs, refsL, List.nil_append, List.append_nil, row_back hk]
  cases hs : allScalar xs <;> simp [takeAll, idx, ren, renL, hk, renO, reset, rowOf, hn, hs, hxs, hys, plainV]
end
/-! ### the walks use these as well -/
attribute [go_sem] wrap_u8 wrap_u16 wrap_u32 wrap_u64 wrap_i32 wrap_i64 List.length_nil List.length_cons List.length_append List.map_cons List.map_nil List.replicate List.set List.getElem?_cons_zero List.getElem?_cons_succ List.take_zero List.drop_zero List.take_succ_cons List.nil_append List.cons_append decide_eq_true_eq Option.getD_some Option.isNone_none Option.isSome_some Bool.false_eq_true Bool.true_and Bool.and_true Bool.or_true Bool.true_or Bool.false_or Bool.or_false Bool.and_self Bool.and_false Bool.false_and Nat.mul_one Nat.one_mul Nat.zero_add Nat.add_zero not_false_eq_true true_and and_true and_self true_or or_true false_or or_false gt_iff_lt ge_iff_le Option.some.injEq Nat.lt_add_one Nat.zero_lt_one Int.toNat_natCast decide_true decide_false Bool.not_true Bool.not_false Bool.not_eq_true Bool.true_eq_false not_true_eq_false beq_iff_eq bne_iff_ne Int.natCast_eq_zero bytesOf_length ile_true ilt_true ile_false ilt_false int_eq int_ne int_beq int_bne int_beq' int_bne' Bool.true_beq Bool.false_beq beq_self_eq_true Option.isSome_none hasKc eqCells makeMapV lookupV mapUpdateV keyT pairV List.take_length endV_ret endV_normal Option.isNone_some firstFree List.size_toArray Array.size_empty ren renL renO backAll List.range_zero List.range_one Nat.sub_self List.append_nil allocV newCells nils putL gather kept keepRows hasRow freezes fillV buildV storeV asNil List.drop_succ_cons List.drop_nil List.take_nil boxV cellsOf List.isEmpty_cons List.isEmpty_nil List.set_cons_zero List.set_cons_succ x_condK x_drawnK p_guardK o_guardK condK_t condK_f guardK_t guardK_f drawK_ok dec_t dec_f Bool.not_not decide_not
end Go.Proofs.YticdhmcbooabaaaDoor.V
