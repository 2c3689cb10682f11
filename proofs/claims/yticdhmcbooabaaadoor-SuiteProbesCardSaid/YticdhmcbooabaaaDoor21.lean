/- V21: the calculus' rules, an operation each. No claim. -/
import Derived.Test.YticdhmcbooabaaaDoor20
set_option linter.unusedVariables false
set_option linter.unusedSimpArgs false
namespace Go.Proofs.YticdhmcbooabaaaDoor.V
open Go

section
variable {P : Program} {E : Env} {base : Nat} {d : Option Tmp} {ty : TypeId} {pos : String} {af : Array Edge} {gd : Option (Nat × Bool)} {ev : Operand → SV} {look : Nat → Option Ob} {K : Eff → Prop}

def onSome (r : Option Eff) (K : Eff → Prop) : Prop := match r with | some e => K e | none => False

theorem onSome_some (e : Eff) (K : Eff → Prop) : onSome (some e) K = K e := rfl

theorem wpAct_eq {o : Oper} {r : Option Eff} (h : ∀ cf, act P E cf base o ev look = r) : wpAct P E base o ev look K = onSome r K := by
  apply propext
  unfold wpAct onSome
  constructor
  · rintro ⟨n, e, h1, h2⟩
    rw [h] at h1
    subst h1
    exact h2
  · intro hk
    cases r with
    | none => exact hk.elim
    | some e => exact ⟨0, e, h _, hk⟩

theorem a_move (x : Operand) : wpAct P E base ⟨d, .move x, ty, pos, af, gd⟩ ev look K = onSome (moveV (base + 16 * (d.getD 0)) look (isNilSlice x) (ev x)) K := wpAct_eq fun _ => rfl
theorem a_assign (x : Operand) : wpAct P E base ⟨d, .assign x, ty, pos, af, gd⟩ ev look K = onSome (moveV (base + 16 * (d.getD 0)) look (isNilSlice x) (ev x)) K := wpAct_eq fun _ => rfl
theorem a_pick (c x y : Operand) : wpAct P E base ⟨d, .pick c x y, ty, pos, af, gd⟩ ev look K = onSome (oneOf (pickV (ev c) (ev x) (ev y))) K := wpAct_eq fun _ => rfl
theorem a_alloc (t : TypeId) : wpAct P E base ⟨d, .alloc t, ty, pos, af, gd⟩ ev look K = onSome (allocV P base (base + 16 * (d.getD 0)) look t) K := wpAct_eq fun _ => rfl
theorem a_box (t : TypeId) (x : Operand) : wpAct P E base ⟨d, .box t x, ty, pos, af, gd⟩ ev look K = onSome (boxV (base + 16 * (d.getD 0)) look (ev x)) K := wpAct_eq fun _ => rfl
theorem a_build (t : TypeId) (ps : Array (Nat × Operand)) : wpAct P E base ⟨d, .build t ps, ty, pos, af, gd⟩ ev look K = onSome (buildV P base look t (ps.toList.map fun p => (p.1, ev p.2))) K := wpAct_eq fun _ => rfl
theorem a_buildSlice (t : TypeId) (n : Nat) (ps : Array (Nat × Operand)) : wpAct P E base ⟨d, .buildSlice t n ps, ty, pos, af, gd⟩ ev look K = onSome (buildSliceV P base (base + 16 * (d.getD 0)) look t n (ps.toList.map fun p => (p.1, ev p.2))) K := wpAct_eq fun _ => rfl
theorem a_load (t : TypeId) (x : Operand) : wpAct P E base ⟨d, .load t x, ty, pos, af, gd⟩ ev look K = onSome (loadV P base look t (ev x)) K := wpAct_eq fun _ => rfl
theorem a_store (t : TypeId) (x y : Operand) : wpAct P E base ⟨d, .store t x y, ty, pos, af, gd⟩ ev look K = onSome (storeV P base look t (ev x) (ev y)) K := wpAct_eq fun _ => rfl
theorem a_nilCheck (x : Operand) : wpAct P E base ⟨d, .nilCheck x, ty, pos, af, gd⟩ ev look K = onSome (nilCheckV look (ev x)) K := wpAct_eq fun _ => rfl
theorem a_binOp (op : BinOp) (t t' : TypeId) (x y : Operand) : wpAct P E base ⟨d, .binOp op t x y t', ty, pos, af, gd⟩ ev look K = onSome (scal (binV P E op t (ev x) (ev y))) K := wpAct_eq fun _ => rfl
theorem a_unOp (op : UnOp) (t : TypeId) (x : Operand) : wpAct P E base ⟨d, .unOp op t x, ty, pos, af, gd⟩ ev look K = onSome (scal (unV op (ev x))) K := wpAct_eq fun _ => rfl
theorem a_convert (a b : TypeId) (x : Operand) : wpAct P E base ⟨d, .convert a b x, ty, pos, af, gd⟩ ev look K = onSome (convertV P (base + 16 * (d.getD 0)) look a b (ev x)) K := wpAct_eq fun _ => rfl
theorem a_arrayAt (t : TypeId) (x : Operand) : wpAct P E base ⟨d, .sliceToArrayPointer t x, ty, pos, af, gd⟩ ev look K = onSome (oneOf (arrayAtV P t (ev x))) K := wpAct_eq fun _ => rfl
theorem a_makeFunc (f : FuncId) (first caps : Array Operand) : wpAct P E base ⟨d, .makeFunc (.func f) first caps, ty, pos, af, gd⟩ ev look K = onSome (if first.size = 0 then one (.clo f (caps.toList.map ev)) else none) K := wpAct_eq fun _ => rfl
theorem a_makeMap (t : TypeId) : wpAct P E base ⟨d, .makeMap t none, ty, pos, af, gd⟩ ev look K = onSome (makeMapV P (base + 16 * (d.getD 0)) look t) K := wpAct_eq fun _ => rfl
theorem a_makeSlice (t : TypeId) (l c : Operand) : wpAct P E base ⟨d, .makeSlice t l c, ty, pos, af, gd⟩ ev look K = onSome (makeSliceV P (base + 16 * (d.getD 0)) look t (ev l) (ev c)) K := wpAct_eq fun _ => rfl
theorem a_slice (t : TypeId) (x : Operand) (lo hi : Option Operand) : wpAct P E base ⟨d, .slice t x lo hi none, ty, pos, af, gd⟩ ev look K = onSome (sliceT P base (base + 16 * (d.getD 0)) look t (ev x) (lo.map ev) (hi.map ev)) K := wpAct_eq fun _ => rfl
theorem a_fieldAddr (t : TypeId) (x : Operand) (f : Nat) : wpAct P E base ⟨d, .fieldAddr t x f, ty, pos, af, gd⟩ ev look K = onSome (fieldAddrV P look t (ev x) f) K := wpAct_eq fun _ => rfl
theorem a_field (t : TypeId) (x : Operand) (f : Nat) : wpAct P E base ⟨d, .field t x f, ty, pos, af, gd⟩ ev look K = onSome (oneOf (fieldV P t (ev x) f)) K := wpAct_eq fun _ => rfl
theorem a_indexAddr (t : TypeId) (x i : Operand) : wpAct P E base ⟨d, .indexAddr t x i, ty, pos, af, gd⟩ ev look K = onSome (indexAddrV P base look t (ev x) (ev i)) K := wpAct_eq fun _ => rfl
theorem a_index (t : TypeId) (x i : Operand) : wpAct P E base ⟨d, .index t x i, ty, pos, af, gd⟩ ev look K = onSome (oneOf (indexV P t (ev x) (ev i))) K := wpAct_eq fun _ => rfl
theorem a_lookup (t : TypeId) (x i : Operand) (ok : Bool) : wpAct P E base ⟨d, .lookup t x i ok, ty, pos, af, gd⟩ ev look K = onSome (lookupV P E look t (ev x) (ev i) ok) K := wpAct_eq fun _ => rfl
theorem a_mapUpdate (t : TypeId) (m k x : Operand) : wpAct P E base ⟨d, .mapUpdate t m k x, ty, pos, af, gd⟩ ev look K = onSome (mapUpdateV P E base look t (ev m) (ev k) (ev x)) K := wpAct_eq fun _ => rfl
theorem a_insert (t : TypeId) (m k x : Operand) : wpAct P E base ⟨d, .insert t m k x, ty, pos, af, gd⟩ ev look K = onSome (mapUpdateV P E base look t (ev m) (ev k) (ev x)) K := wpAct_eq fun _ => rfl
theorem a_range (t : TypeId) (x : Operand) : wpAct P E base ⟨d, .range t x, ty, pos, af, gd⟩ ev look K = onSome (rangeV P (base + 16 * (d.getD 0)) look t (ev x)) K := wpAct_eq fun _ => rfl
theorem a_next (x : Operand) : wpAct P E base ⟨d, .next x true, ty, pos, af, gd⟩ ev look K = onSome (nextV look (ev x)) K := wpAct_eq fun _ => rfl
theorem a_extract (x : Operand) (i : Nat) : wpAct P E base ⟨d, .extract x i, ty, pos, af, gd⟩ ev look K = onSome (oneOf (extractV (ev x) i)) K := wpAct_eq fun _ => rfl
theorem a_builtin (b : Builtin) (args : Array Operand) (ts : Array TypeId) : wpAct P E base ⟨d, .call ⟨.builtin b, args, ts⟩, ty, pos, af, gd⟩ ev look K = onSome (callB P base (base + 16 * (d.getD 0)) look b (isNilOp args[0]?) ts (args.toList.map ev)) K := wpAct_eq fun _ => rfl

theorem onSome_one (v : SV) (K : Eff → Prop) : onSome (one v) K = K { res := v } := rfl
theorem onSome_scal (x : PV) (K : Eff → Prop) : onSome (scal (some x)) K = K { res := .pure true x } := rfl
theorem onSome_oneOf (v : SV) (K : Eff → Prop) : onSome (oneOf (some v)) K = K { res := v } := rfl

/-! ### values -/
variable {s : Nat → Option SV}
theorem ev_tmp (t : Tmp) : evalO E s (.tmp t) = (s t).getD .dead := rfl
theorem ev_int (k : IntKind) (n : Int) : evalO E s (.const (.int k n)) = .pure true (.int k n) := rfl
theorem ev_bool (b : Bool) : evalO E s (.const (.bool b)) = .pure true (.bool b) := rfl
theorem ev_str (b : ByteArray) : evalO E s (.const (.string b)) = .pure true (.str b.data.toList) := rfl
theorem ev_nil : evalO E s (.const (.slice none 0 0)) = .pure true (.sl []) := rfl
theorem ev_func (f : FuncId) : evalO E s (.func f) = .clo f [] := rfl
theorem nilS_tmp (t : Tmp) : isNilSlice (.tmp t) = false := rfl
theorem nilS_int (k : IntKind) (n : Int) : isNilSlice (.const (.int k n)) = false := rfl
theorem nilS_bool (b : Bool) : isNilSlice (.const (.bool b)) = false := rfl
theorem nilS_str (b : ByteArray) : isNilSlice (.const (.string b)) = false := rfl
theorem nilS_nil : isNilSlice (.const (.slice none 0 0)) = true := rfl
theorem nilS_func (f : FuncId) : isNilSlice (.func f) = false := rfl
theorem move_val (nk : Nat) (x : SV) : moveV nk look false x = one x := rfl
theorem pick_val (m t : Bool) (a b : SV) : pickV (.pure m (.bool t)) a b = some (if t then a else b) := rfl

section
variable {t : TypeId} {m m' : Bool} {k : IntKind} {a b : Int}
theorem b_add : binV P E .add t (.pure m (.int k a)) (.pure m' (.int k b)) = some (.int k (k.wrap (a + b))) := by simp [binV, arith]
theorem b_sub : binV P E .sub t (.pure m (.int k a)) (.pure m' (.int k b)) = some (.int k (k.wrap (a - b))) := by simp [binV, arith]
theorem b_mul : binV P E .mul t (.pure m (.int k a)) (.pure m' (.int k b)) = some (.int k (k.wrap (a * b))) := by simp [binV, arith]
theorem b_quo : binV P E .quo t (.pure m (.int k a)) (.pure m' (.int k b)) = if b = 0 then none else some (.int k (k.wrap (a.tdiv b))) := by simp [binV, arith]
theorem b_rem : binV P E .rem t (.pure m (.int k a)) (.pure m' (.int k b)) = if b = 0 then none else some (.int k (a.tmod b)) := by simp [binV, arith]
theorem b_and : binV P E .and t (.pure m (.int k a)) (.pure m' (.int k b)) = some (.int k (k.wrap (BitVec.ofInt k.bits a &&& BitVec.ofInt k.bits b).toNat)) := by simp [binV, arith]
theorem b_or : binV P E .or t (.pure m (.int k a)) (.pure m' (.int k b)) = some (.int k (k.wrap (BitVec.ofInt k.bits a ||| BitVec.ofInt k.bits b).toNat)) := by simp [binV, arith]
theorem b_xor : binV P E .xor t (.pure m (.int k a)) (.pure m' (.int k b)) = some (.int k (k.wrap (BitVec.ofInt k.bits a ^^^ BitVec.ofInt k.bits b).toNat)) := by simp [binV, arith]
theorem b_eql : binV P E .eql t (.pure m (.int k a)) (.pure m' (.int k b)) = some (.bool (a == b)) := by simp [binV, arith]
theorem b_neq : binV P E .neq t (.pure m (.int k a)) (.pure m' (.int k b)) = some (.bool (a != b)) := by simp [binV, arith]
theorem b_lss : binV P E .lss t (.pure m (.int k a)) (.pure m' (.int k b)) = some (.bool (decide (a < b))) := by simp [binV, arith]
theorem b_leq : binV P E .leq t (.pure m (.int k a)) (.pure m' (.int k b)) = some (.bool (decide (a ≤ b))) := by simp [binV, arith]
theorem b_gtr : binV P E .gtr t (.pure m (.int k a)) (.pure m' (.int k b)) = some (.bool (decide (a > b))) := by simp [binV, arith]
theorem b_geq : binV P E .geq t (.pure m (.int k a)) (.pure m' (.int k b)) = some (.bool (decide (a ≥ b))) := by simp [binV, arith]
theorem b_shl {k' : IntKind} : binV P E .shl t (.pure m (.int k a)) (.pure m' (.int k' b)) = if b < 0 then none else some (.int k (k.wrap (a * 2 ^ min b.toNat k.bits))) := by simp [binV, shiftV]
theorem b_shr {k' : IntKind} : binV P E .shr t (.pure m (.int k a)) (.pure m' (.int k' b)) = if b < 0 then none else some (.int k (a.fdiv (2 ^ min b.toNat k.bits))) := by simp [binV, shiftV]
variable {x y : List UInt8}
theorem b_sadd : binV P E .add t (.pure m (.str x)) (.pure m' (.str y)) = if (((x.length + y.length : Nat) : Int) ≤ maxStr) then some (.str (x ++ y)) else none := rfl
theorem b_seql : binV P E .eql t (.pure m (.str x)) (.pure m' (.str y)) = some (.bool (x == y)) := rfl
theorem b_sneq : binV P E .neq t (.pure m (.str x)) (.pure m' (.str y)) = some (.bool !(x == y)) := rfl
theorem b_slss : binV P E .lss t (.pure m (.str x)) (.pure m' (.str y)) = some (.bool (Op.bytesLess x y)) := rfl
variable {p q : Bool}
theorem b_beql (h : P.underlying t = some .bool) : binV P E .eql t (.pure m (.bool p)) (.pure m' (.bool q)) = some (.bool (p == q)) := by simp [binV, h]
theorem b_bneq (h : P.underlying t = some .bool) : binV P E .neq t (.pure m (.bool p)) (.pure m' (.bool q)) = some (.bool !(p == q)) := by simp [binV, h]
theorem u_not : unV .not (.pure m (.bool p)) = some (.bool !p) := rfl
theorem u_neg : unV .neg (.pure m (.int k a)) = some (.int k (k.wrap (0 - a))) := rfl
theorem c_int {nk : Nat} {src dst : TypeId} {k1 k2 : IntKind} (h1 : P.underlying src = some (.int k1)) (h2 : P.underlying dst = some (.int k2)) : convertV P nk look src dst (.pure m (.int k a)) = some { res := .pure true (.int k2 (k2.wrap a)) } := by simp [convertV, h1, h2]
end

theorem len_str {t : TypeId} {m : Bool} {x : List UInt8} (h : P.underlying t = some .string) : lenV P look t (.pure m (.str x)) = some { res := .pure true (.int .i64 x.length) } := by simp [lenV, h]
theorem len_sl {t e : TypeId} {m : Bool} {xs : List PV} (h : P.underlying t = some (.slice e)) : lenV P look t (.pure m (.sl xs)) = some { res := .pure true (.int .i64 xs.length) } := by simp [lenV, h]
theorem len_row {t e : TypeId} {k n : Nat} (h : P.underlying t = some (.slice e)) : lenV P look t (.row k n) = some { res := .pure true (.int .i64 n) } := by simp [lenV, h]

/-! ### texts -/
variable {top : Nat} {ann : Nat → List Nat} {reg : Nat → List (List Nat)} {S : Store} {sl : Slots} {Q : Ex → Slots → Store → Prop}
theorem x_skip : wpX P E base top ann reg .skip sl S Q = Q .normal sl S := rfl
theorem x_label (l : Nat) : wpX P E base top ann reg (.label l) sl S Q = Q .normal sl S := rfl
theorem x_region (id : Nat) (ops : Array Oper) : wpX P E base top ann reg (.region id ops false) sl S Q = wpOpsP P E base top ops ops.toList sl S (kk (fun s S => Q .normal s S) ⟨⟩) := rfl
theorem x_drawn (id : Nat) (ops : Array Oper) : wpX P E base top ann reg (.region id ops true) sl S Q = wpOpsV P E base top ops ops.toList sl S [] (kk (fun s S es => turnK 0 es (reg id) = true ∧ Q .normal s S) ⟨⟩) := rfl
theorem x_seq (a b : Code) : wpX P E base top ann reg (.seq a b) sl S Q = wpX P E base top ann reg a sl S (thenV (kk (fun s S => wpX P E base top ann reg b s S Q) ⟨⟩) Q) := rfl
def condV (v : SV) (A B : Prop) : Prop := match v with | .pure _ (.bool t) => if t then A else B | _ => False
theorem x_cond (x : Operand) (a b : Code) : wpX P E base top ann reg (.cond x a b) sl S Q = condV (evalO E (get sl) x) (wpX P E base top ann reg a sl S Q) (wpX P E base top ann reg b sl S Q) := by
  simp only [wpX, condV]
  generalize evalO E (get sl) x = v
  cases v <;> rfl
theorem condV_bool (m t : Bool) (A B : Prop) : condV (.pure m (.bool t)) A B = if t then A else B := rfl
theorem x_block (id : Nat) (a : Code) : wpX P E base top ann reg (.block id a) sl S Q = wpX P E base top ann reg a sl S (blockV id Q) := rfl
theorem x_loop (a : Code) : wpX P E base top ann reg (.loop a) sl S Q = wpLoop P E base top ann reg a sl S Q := rfl
theorem x_exit (id : Nat) : wpX P E base top ann reg (.exit id) sl S Q = Q (.exit id) sl S := rfl
theorem x_ret : wpX P E base top ann reg .ret sl S Q = Q .ret sl S := rfl
theorem t_normal (K : Slots → Store → Prop) : thenV K Q .normal sl S = K sl S := rfl
theorem t_exit (K : Slots → Store → Prop) (id : Nat) : thenV K Q (.exit id) sl S = Q (.exit id) sl S := rfl
theorem t_ret (K : Slots → Store → Prop) : thenV K Q .ret sl S = Q .ret sl S := rfl
theorem bl_normal (id : Nat) : blockV id Q .normal sl S = Q .normal sl S := rfl
theorem bl_exit (id j : Nat) : blockV id Q (.exit j) sl S = if j = id then Q .normal sl S else Q (.exit j) sl S := rfl
theorem bl_ret (id : Nat) : blockV id Q .ret sl S = Q .ret sl S := rfl

variable {ops : Array Oper} {es : List Keys} {K' : Slots → Store → List Keys → Prop} {K1 : Slots → Store → Prop}
theorem p_nil : wpOpsP P E base top ops [] sl S K1 = K1 sl S := rfl
theorem p_cons (d : Nat) (op : Op) (r : List Oper) : wpOpsP P E base top ops (⟨some d, op, ty, pos, af, none⟩ :: r) sl S K1 = (¬ top < base + 16 * d + 16 ∧ wpAct P E base ⟨some d, op, ty, pos, af, none⟩ (evalO E (get sl)) (get S) (kk (fun e => wpOpsP P E base top ops r ((d, e.res) :: sl) (e.wr ++ S) K1) ⟨⟩)) := rfl
theorem p_consn (op : Op) (r : List Oper) : wpOpsP P E base top ops (⟨none, op, ty, pos, af, none⟩ :: r) sl S K1 = (¬ top < base + 16 ∧ wpAct P E base ⟨none, op, ty, pos, af, none⟩ (evalO E (get sl)) (get S) (kk (fun e => wpOpsP P E base top ops r sl (e.wr ++ S) K1) ⟨⟩)) := rfl
theorem o_nil : wpOpsV P E base top ops [] sl S es K' = K' sl S es.reverse := rfl
/-- An operation that stands under no guard. -/
theorem o_cons (d : Nat) (op : Op) (r : List Oper) : wpOpsV P E base top ops (⟨some d, op, ty, pos, af, none⟩ :: r) sl S es K' = (¬ top < base + 16 * d + 16 ∧ wpAct P E base ⟨some d, op, ty, pos, af, none⟩ (evalO E (get sl)) (get S) (kk (fun e => wpOpsV P E base top ops r ((d, e.res) :: sl) (e.wr ++ S) (keysE e :: es) K') ⟨⟩)) := rfl
theorem o_consn (op : Op) (r : List Oper) : wpOpsV P E base top ops (⟨none, op, ty, pos, af, none⟩ :: r) sl S es K' = (¬ top < base + 16 ∧ wpAct P E base ⟨none, op, ty, pos, af, none⟩ (evalO E (get sl)) (get S) (kk (fun e => wpOpsV P E base top ops r sl (e.wr ++ S) (keysE e :: es) K') ⟨⟩)) := rfl
def guardV (w : Option Bool) (A B : Prop) : Prop := match w with | some true => A | some false => B | none => False
theorem guard_some (b : Bool) (A B : Prop) : guardV (some b) A B = if b then A else B := by cases b <;> rfl
/-- One that stands under one. -/
theorem o_guard (d j : Nat) (b : Bool) (op : Op) (r : List Oper) : wpOpsV P E base top ops (⟨some d, op, ty, pos, af, some (j, b)⟩ :: r) sl S es K' = (¬ top < base + 16 * d + 16 ∧ guardV (yieldedV ops (get sl) j b)
    (wpAct P E base ⟨some d, op, ty, pos, af, some (j, b)⟩ (evalO E (get sl)) (get S) (kk (fun e => wpOpsV P E base top ops r ((d, e.res) :: sl) (e.wr ++ S) (keysE e :: es) K') ⟨⟩))
    (wpOpsV P E base top ops r ((d, .tuple []) :: sl) S (([], some []) :: es) K')) := by
  conv => lhs; unfold wpOpsV
  simp only [wantedV, guardV, putS, Option.getD_some]
  cases h : yieldedV ops (get sl) j b with
  | none => rfl
  | some c => cases c <;> rfl
theorem p_guard (d j : Nat) (b : Bool) (op : Op) (r : List Oper) : wpOpsP P E base top ops (⟨some d, op, ty, pos, af, some (j, b)⟩ :: r) sl S K1 = (¬ top < base + 16 * d + 16 ∧ guardV (yieldedV ops (get sl) j b)
    (wpAct P E base ⟨some d, op, ty, pos, af, some (j, b)⟩ (evalO E (get sl)) (get S) (kk (fun e => wpOpsP P E base top ops r ((d, e.res) :: sl) (e.wr ++ S) K1) ⟨⟩))
    (wpOpsP P E base top ops r ((d, .tuple []) :: sl) S K1)) := by
  conv => lhs; unfold wpOpsP
  simp only [wantedV, guardV, putS, Option.getD_some]
  cases h : yieldedV ops (get sl) j b with
  | none => rfl
  | some c => cases c <;> rfl
def yieldB (v : Option SV) (b : Bool) : Option Bool := match v with
  | some (.pure _ (.bool c)) => some (decide (c = b))
  | some (.tuple []) => some false
  | _ => none
theorem y_at {j dd : Nat} {b : Bool} {s : Nat → Option SV} (h : (ops[j]?).bind (·.dst) = some dd) : yieldedV ops s j b = yieldB (s dd) b := by
  unfold yieldedV yieldB
  rw [h]
  simp only
  split <;> simp_all
theorem yB_bool (m c b : Bool) : yieldB (some (.pure m (.bool c))) b = some (decide (c = b)) := rfl
theorem yB_undef (b : Bool) : yieldB (some (.tuple [])) b = some false := rfl
theorem kk_1 {α β : Type} (f : α → β) (t : Tag f) (a : α) : kk f t a = f a := rfl
theorem kk_2 {α β γ : Type} (f : α → β → γ) (t : Tag f) (a : α) (b : β) : kk f t a b = f a b := rfl
theorem kk_3 {α β γ δ : Type} (f : α → β → γ → δ) (t : Tag f) (a : α) (b : β) (c : γ) : kk f t a b c = f a b c := rfl
/-! ### where a rewriter may look -/
@[congr] theorem onSome_congr {r r' : Option Eff} {K : Eff → Prop} (h : r = r') : onSome r K = onSome r' K := by rw [h]
@[congr] theorem condV_congr {v v' : SV} {A B : Prop} (h : v = v') : condV v A B = condV v' A B := by rw [h]
@[congr] theorem guardV_congr {v v' : Option Bool} {A B : Prop} (h : v = v') : guardV v A B = guardV v' A B := by rw [h]
@[congr] theorem thenV_congr {K : Slots → Store → Prop} {e e' : Ex} {sl' : Slots} {S' : Store} (h : e = e') (h1 : sl = sl') (h2 : S = S') : thenV K Q e sl S = thenV K Q e' sl' S' := by rw [h, h1, h2]
@[congr] theorem blockV_congr {id : Nat} {e e' : Ex} {sl' : Slots} {S' : Store} (h : e = e') (h1 : sl = sl') (h2 : S = S') : blockV id Q e sl S = blockV id Q e' sl' S' := by rw [h, h1, h2]
@[congr] theorem wpX_congr {c : Code} {sl' : Slots} {S' : Store} (h1 : sl = sl') (h2 : S = S') : wpX P E base top ann reg c sl S Q = wpX P E base top ann reg c sl' S' Q := by rw [h1, h2]
@[congr] theorem wpLoop_congr {c : Code} {sl' : Slots} {S' : Store} (h1 : sl = sl') (h2 : S = S') : wpLoop P E base top ann reg c sl S Q = wpLoop P E base top ann reg c sl' S' Q := by rw [h1, h2]
@[congr] theorem wpOpsP_congr {l : List Oper} {sl' : Slots} {S' : Store} (h1 : sl = sl') (h2 : S = S') : wpOpsP P E base top ops l sl S K1 = wpOpsP P E base top ops l sl' S' K1 := by rw [h1, h2]
@[congr] theorem wpOpsV_congr {l : List Oper} {sl' : Slots} {S' : Store} {es' : List Keys} (h1 : sl = sl') (h2 : S = S') (h3 : es = es') : wpOpsV P E base top ops l sl S es K' = wpOpsV P E base top ops l sl' S' es' K' := by rw [h1, h2, h3]
@[congr] theorem wpAct_congr {base' : Nat} {o : Oper} {ev : Operand → SV} {look : Nat → Option Ob} (h : base = base') : wpAct P E base o ev look K = wpAct P E base' o ev look K := by rw [h]
@[congr] theorem endV_congr {n0 : Nat} {rs : List ResultVar} {res : SV} {S1 : Store} {e e' : Ex} {sl' : Slots} {S' : Store} (h : e = e') (h1 : sl = sl') (h2 : S = S') : endV P n0 rs res S1 e sl S = endV P n0 rs res S1 e' sl' S' := by rw [h, h1, h2]

theorem get_cons {α : Type} (j : Nat) (v : α) (r : List (Nat × α)) (i : Nat) : get ((j, v) :: r) i = if j = i then some v else get r i := rfl
end
end Go.Proofs.YticdhmcbooabaaaDoor.V
