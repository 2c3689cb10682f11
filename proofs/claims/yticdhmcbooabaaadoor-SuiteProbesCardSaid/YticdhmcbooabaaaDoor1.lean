/- V1: the evaluator 'V': Go's code over an abstract store: pure data, rows (slices that the call made), boxes (variables in memory), maps, iterators. Definitions alone; no claim. -/
import Derived.Orders
set_option linter.unusedVariables false
set_option linter.unusedSimpArgs false
namespace Go.Proofs.YticdhmcbooabaaaDoor.V
open Go

/-- Pure data: what nobody writes any more. A slice is its list; a struct or an array is the list of its cells. -/
inductive PV where
  | int (k : IntKind) (n : Int)
  | bool (b : Bool)
  | str (s : List UInt8)
  | sl (xs : List PV)
  | agg (cs : List PV)
  | opq (v : Value)
  deriving Inhabited

/-- What a slot holds. -/
inductive SV where
  | pure (m : Bool) (x : PV)
  | row (k len : Nat)
  | ptr (k off : Nat)
  | eptr (k len i r : Nat)
  | tl (k len i : Nat)
  | hd (k len h : Nat)
  | rptr (m : Bool) (cs : List PV)
  | map (k : Nat)
  | iter (k : Nat)
  | view (k off z n : Nat)
  | clo (f : FuncId) (caps : List SV)
  | tuple (vs : List SV)
  | agg (cs : List SV)
  | dead
  deriving Inhabited

/-- What lies in the store. -/
inductive Ob where
  | box (cs : List SV)
  | fbox (m : Bool) (cs : List PV)
  | row (m : Bool) (z lim : Nat) (xs : List PV)
  | map (m : Bool) (es : List (PV × PV))
  | maps (es : List (PV × SV))
  | iter (s : List UInt8) (pos : Nat)
  deriving Inhabited

abbrev Store := List (Nat × Ob)
abbrev Slots := List (Nat × SV)

def get {α : Type} : List (Nat × α) → Nat → Option α
  | [], _ => none
  | (j, v) :: r, i => if j = i then some v else get r i

structure St where
  slots : Slots
  store : Store

def PV.cells : PV → List PV
  | .agg cs => cs
  | x => [x]

/-- Bears it no row? -/
def PV.scalar : PV → Bool
  | .int .. | .bool _ | .str _ | .opq _ => true
  | .sl _ => false
  | .agg cs => go cs
where
  go : List PV → Bool
  | [] => true
  | .int .. :: r | .bool _ :: r | .str _ :: r | .opq _ :: r => go r
  | _ :: _ => false

def PV.isAgg : PV → Bool
  | .agg _ => true
  | _ => false

def constC : Value → Option PV
  | .int k n => some (.int k n)
  | .bool b => some (.bool b)
  | .string s => some (.str s.data.toList)
  | .slice none 0 0 => some (.sl [])
  | .nilIface => some (.opq .nilIface)
  | .nilFunc => some (.opq .nilFunc)
  | .pointer none => some (.opq (.pointer none))
  | .map none => some (.opq (.map none))
  | _ => none

def mapOpt {α β : Type} (f : α → Option β) : List α → Option (List β)
  | [] => some []
  | a :: r => match f a with
    | some b => match mapOpt f r with
      | some l => some (b :: l)
      | none => none
    | none => none

def constV : Value → Option PV
  | .agg cs => match mapOpt constC cs.toList with
    | some l => some (.agg l)
    | none => none
  | v => constC v

/-- The nil slice, known as such. -/
def isNilP : PV → Bool
  | .opq (.slice none 0 0) => true
  | _ => false

/-- A slice is its list, nil or not. -/
def norm1 (x : PV) : PV := if isNilP x then .sl [] else x
def norm : PV → PV
  | .agg cs => .agg (cs.map norm1)
  | x => norm1 x

def asNil : PV → PV
  | .sl [] => .opq (.slice none 0 0)
  | x => x

/-- Is it the nil slice, as a constant? -/
def isNilSlice : Operand → Bool
  | .const (.slice none 0 0) => true
  | _ => false

/-- What of an operation is to be told beside the result: what it writes into the store; what it reads of it (none: whatever). -/
structure Eff where
  res : SV
  wr : Store := []
  rd : Option (List Nat) := some []

/-- Kinds of plain cells. -/
inductive Kc where
  | int (k : IntKind)
  | bool
  | str

def hasKc : List Kc → List PV → Bool
  | [], [] => true
  | .int k :: r, .int k' _ :: s => decide (k = k') && hasKc r s
  | .bool :: r, .bool _ :: s => hasKc r s
  | .str :: r, .str _ :: s => hasKc r s
  | _, _ => false

/-- What is known of the program beside its text. -/
structure Env where
  intr : FuncId → Option (List SV → (Nat → Option Ob) → Nat → Option Eff) := fun _ => none
  glob : Nat → Option (List PV) := fun _ => none
  ann : FuncId → Nat → List Nat := fun _ _ => []
  reg : FuncId → Nat → List (List Nat) := fun _ _ => []
  byRef : FuncId → Bool := fun _ => false
  eqT : TypeId → Option (List Kc) := fun _ => none

section
variable (P : Program) (E : Env)

def evalO (s : Nat → Option SV) : Operand → SV
  | .tmp t => (s t).getD .dead
  | .const v => match constV v with
    | some x => .pure true x
    | none => .dead
  | .global g => match E.glob g with
    | some cs => .rptr false cs
    | none => .dead
  | .func f => .clo f []

/-! ### whole numbers, texts -/
def arith (op : BinOp) (k : IntKind) (a b : Int) : Option PV :=
  match op with
  | .add => some (.int k (k.wrap (a + b)))
  | .sub => some (.int k (k.wrap (a - b)))
  | .mul => some (.int k (k.wrap (a * b)))
  | .quo => if b = 0 then none else some (.int k (k.wrap (a.tdiv b)))
  | .rem => if b = 0 then none else some (.int k (a.tmod b))
  | .and => some (.int k (k.wrap (BitVec.ofInt k.bits a &&& BitVec.ofInt k.bits b).toNat))
  | .or => some (.int k (k.wrap (BitVec.ofInt k.bits a ||| BitVec.ofInt k.bits b).toNat))
  | .xor => some (.int k (k.wrap (BitVec.ofInt k.bits a ^^^ BitVec.ofInt k.bits b).toNat))
  | .andNot => some (.int k (k.wrap (BitVec.ofInt k.bits a &&& ~~~BitVec.ofInt k.bits b).toNat))
  | .eql => some (.bool (a == b))
  | .neq => some (.bool (a != b))
  | .lss => some (.bool (decide (a < b)))
  | .leq => some (.bool (decide (a ≤ b)))
  | .gtr => some (.bool (decide (a > b)))
  | .geq => some (.bool (decide (a ≥ b)))
  | _ => none

def shiftV (op : BinOp) (k : IntKind) (a b : Int) : Option PV :=
  if b < 0 then none else
  match op with
  | .shl => some (.int k (k.wrap (a * 2 ^ min b.toNat k.bits)))
  | .shr => some (.int k (a.fdiv (2 ^ min b.toNat k.bits)))
  | _ => none

def maxStr : Int := 9223372036854775807

def strV (op : BinOp) (a b : List UInt8) : Option PV :=
  match op with
  | .add => if (((a.length + b.length : Nat) : Int) ≤ maxStr) then some (.str (a ++ b)) else none
  | .eql => some (.bool (a == b))
  | .neq => some (.bool !(a == b))
  | .lss => some (.bool (Op.bytesLess a b))
  | .leq => some (.bool (Op.bytesLess a b || a == b))
  | .gtr => some (.bool !(Op.bytesLess a b || a == b))
  | .geq => some (.bool !(Op.bytesLess a b))
  | _ => none

/-- Are two lists of plain cells alike? -/
def eqCells : List PV → List PV → Option Bool
  | [], [] => some true
  | .int k a :: r, .int k' b :: s => if k = k' then (match eqCells r s with | some t => some (decide (a = b) && t) | none => none) else none
  | .bool a :: r, .bool b :: s => match eqCells r s with | some t => some (decide (a = b) && t) | none => none
  | .str a :: r, .str b :: s => match eqCells r s with | some t => some (decide (a = b) && t) | none => none
  | _, _ => none

def binV (op : BinOp) (t : TypeId) (x y : SV) : Option PV :=
  match x, y with
  | .pure _ (.int k a), .pure _ (.int k' b) => match op with
    | .shl | .shr => shiftV op k a b
    | _ => if k = k' then arith op k a b else none
  | .pure _ (.str a), .pure _ (.str b) => strV op a b
  | .pure _ (.bool a), .pure _ (.bool b) => match op, P.underlying t with
    | .eql, some .bool => some (.bool (a == b))
    | .neq, some .bool => some (.bool !(a == b))
    | _, _ => none
  | .pure _ (.agg a), .pure _ (.agg b) => match E.eqT t with
    | some ks => if hasKc ks a && hasKc ks b then match op with
        | .eql => match eqCells a b with | some r => some (.bool r) | none => none
        | .neq => match eqCells a b with | some r => some (.bool !r) | none => none
        | _ => none
      else none
    | none => none
  | .clo _ _, .pure _ (.opq .nilFunc) => match op, P.underlying t with
    | .eql, some (.func ..) => some (.bool false)
    | .neq, some (.func ..) => some (.bool true)
    | _, _ => none
  | .pure _ (.opq .nilFunc), .pure _ (.opq .nilFunc) => match op, P.underlying t with
    | .eql, some (.func ..) => some (.bool true)
    | .neq, some (.func ..) => some (.bool false)
    | _, _ => none
  | .ptr _ _, .pure _ (.opq (.pointer none)) => match op, P.underlying t with
    | .eql, some (.pointer _) => some (.bool false)
    | .neq, some (.pointer _) => some (.bool true)
    | _, _ => none
  | .pure _ (.opq (.pointer none)), .pure _ (.opq (.pointer none)) => match op, P.underlying t with
    | .eql, some (.pointer _) => some (.bool true)
    | .neq, some (.pointer _) => some (.bool false)
    | _, _ => none
  | _, _ => none

def unV (op : UnOp) (x : SV) : Option PV :=
  match op, x with
  | .not, .pure _ (.bool b) => some (.bool !b)
  | .neg, .pure _ (.int k n) => some (.int k (k.wrap (0 - n)))
  | _, _ => none

/-! ### what is handed on as pure data -/
def over (δ : Store) (look : Nat → Option Ob) (k : Nat) : Option Ob :=
  match get δ k with
  | some ob => some ob
  | none => look k

/-- A box's cells, if all of them are pure. -/
def pures : List SV → Option (Bool × List PV)
  | [] => some (true, [])
  | .pure m x :: r => match pures r with
    | some (m', l) => some (m && m', x :: l)
    | none => none
  | _ :: _ => none

/-- A slot's value as pure data; what is written by that (a row's cells that stay as they are from now on). -/
def freeze (base : Nat) (look : Nat → Option Ob) : SV → Option (Bool × PV × Store)
  | .pure m x => some (m, x, [])
  | .row k len => match look k with
    | some (.row m z lim xs) => if len ≤ xs.length then some (m && decide (base ≤ k), .sl (xs.take len), [(k, .row m z (max lim len) xs)]) else none
    | _ => none
  | .hd k len h => match look k with
    | some (.row m z lim xs) => if len = xs.length ∧ h ≤ len then some (m && decide (base ≤ k), .sl (xs.take h), [(k, .row m z (max lim h) xs)]) else none
    | _ => none
  | .view k off z n => match look k with
    | some (.box cs) => match pures cs with
      | some (m, l) => if z = 1 ∧ off + n ≤ l.length then some (m && decide (base ≤ k), .sl ((l.drop off).take n), [(k, .fbox m l)]) else none
      | none => none
    | some (.fbox m l) => if z = 1 ∧ off + n ≤ l.length then some (m && decide (base ≤ k), .sl ((l.drop off).take n), [(k, .fbox m l)]) else none
    | _ => none
  | _ => none

/-- The same, a slice as its list. -/
def freezeN (base : Nat) (look : Nat → Option Ob) (x : SV) : Option (Bool × PV × Store) :=
  match freeze base look x with
  | some (m, y, δ) => some (m, norm y, δ)
  | none => none

/-- The same of several, one behind the other. -/
def freezes (base : Nat) (look : Nat → Option Ob) : List SV → Option (Bool × List PV × Store)
  | [] => some (true, [], [])
  | v :: r => match freeze base look v with
    | some (m, x, δ) => match freezes base (over δ look) r with
      | some (m', l, δ') => some (m && m', x :: l, δ' ++ δ)
      | none => none
    | none => none

mutual
/-- The keys that a value leads to at once. -/
def refs : SV → List Nat
  | .row k _ | .ptr k _ | .eptr k _ _ _ | .tl k _ _ | .hd k _ _ | .map k | .iter k | .view k _ _ _ => [k]
  | .clo _ l | .tuple l | .agg l => refsL l
  | .pure .. | .rptr .. | .dead => []
def refsL : List SV → List Nat
  | [] => []
  | v :: r => refs v ++ refsL r
end

def refsE : List (PV × SV) → List Nat
  | [] => []
  | (_, v) :: r => refs v ++ refsE r

def refsO : Ob → List Nat
  | .box cs => refsL cs
  | .maps es => refsE es
  | .fbox .. | .row .. | .map .. | .iter .. => []

def reach (look : Nat → Option Ob) : Nat → List Nat → List Nat → List Nat
  | 0, _, acc => acc
  | _ + 1, [], acc => acc
  | f + 1, k :: todo, acc => if acc.contains k then reach look f todo acc else match look k with
    | some ob => reach look f (refsO ob ++ todo) (acc ++ [k])
    | none => reach look f todo acc

mutual
/-- Keys renamed; what leads to no key any more is dead. -/
def ren (f : Nat → Option Nat) : SV → SV
  | .row k n => match f k with | some j => .row j n | none => .dead
  | .ptr k n => match f k with | some j => .ptr j n | none => .dead
  | .eptr k a b c => match f k with | some j => .eptr j a b c | none => .dead
  | .tl k a b => match f k with | some j => .tl j a b | none => .dead
  | .hd k a b => match f k with | some j => .hd j a b | none => .dead
  | .map k => match f k with | some j => .map j | none => .dead
  | .iter k => match f k with | some j => .iter j | none => .dead
  | .view k a b c => match f k with | some j => .view j a b c | none => .dead
  | .clo g l => .clo g (renL f l)
  | .tuple l => .tuple (renL f l)
  | .agg l => .agg (renL f l)
  | .pure m x => .pure m x
  | .rptr m cs => .rptr m cs
  | .dead => .dead
def renL (f : Nat → Option Nat) : List SV → List SV
  | [] => []
  | v :: r => ren f v :: renL f r
end

def renE (f : Nat → Option Nat) : List (PV × SV) → List (PV × SV)
  | [] => []
  | (x, v) :: r => (x, ren f v) :: renE f r

def renO (f : Nat → Option Nat) : Ob → Ob
  | .box cs => .box (renL f cs)
  | .maps es => .maps (renE f es)
  | .fbox m l => .fbox m l
  | .row m z lim xs => .row m z lim xs
  | .map m es => .map m es
  | .iter s p => .iter s p

mutual
/-- As another frame sees it: its rows are older than that frame. -/
def dem : SV → SV
  | .pure m x => .pure (m && (norm x).scalar) (norm x)
  | .rptr m cs => .rptr false cs
  | .clo f l => .clo f (demL l)
  | .tuple l => .tuple (demL l)
  | .agg l => .agg (demL l)
  | .row k n => .row k n
  | .ptr k n => .ptr k n
  | .eptr k a b c => .eptr k a b c
  | .tl k a b => .tl k a b
  | .hd k a b => .hd k a b
  | .map k => .map k
  | .iter k => .iter k
  | .view k a b c => .view k a b c
  | .dead => .dead
def demL : List SV → List SV
  | [] => []
  | v :: r => dem v :: demL r
end

/-- Bears none of them a row? -/
def allScalar : List PV → Bool
  | [] => true
  | x :: r => x.scalar && allScalar r

def demE : List (PV × SV) → List (PV × SV)
  | [] => []
  | (x, v) :: r => (x, dem v) :: demE r

def demO : Ob → Ob
  | .box cs => .box (demL cs)
  | .maps es => .maps (demE es)
  | .fbox m l => .fbox false l
  | .row m z lim xs => .row false z lim xs
  | .map m es => .map false es
  | .iter s p => .iter s p

mutual
/-- Is all of it newer than the frame? -/
def newV : SV → Bool
  | .pure m x => m || x.scalar
  | .row .. => true
  | .hd .. => true
  | .tuple l => newL l
  | _ => false
def newL : List SV → Bool
  | [] => true
  | v :: r => newV v && newL r
end
def newO : Ob → Bool
  | .row m .. => m
  | _ => false

def idx : List Nat → Nat → Nat → Option Nat
  | [], _, _ => none
  | j :: r, k, n => if j = k then some n else idx r k (n + 1)

/-! ### memory that is read and written -/
/-- The cells of a value that is stored. -/
def cellsOf : SV → Option (List SV)
  | .pure m (.agg cs) => some (cs.map (.pure m))
  | .agg cs => some cs
  | .tuple _ => none
  | .dead => none
  | .rptr .. => none
  | .eptr .. => none
  | .tl .. => none
  | .hd .. => none
  | v => some [v]

/-- Does a struct keep its rows as rows (told at the texts' laying)? -/
def keepRows : Bool := false
def hasRow : List SV → Bool
  | [] => false
  | .row .. :: _ => true
  | _ :: r => hasRow r
def kept (base : Nat) (look : Nat → Option Ob) (cs : List SV) : Option (Bool × List PV × Store) :=
  if keepRows && hasRow cs then none else freezes base look cs

/-- A struct out of its cells: pure, if that can be. -/
def gather (base : Nat) (look : Nat → Option Ob) (cs : List SV) : SV × Store × Bool :=
  match kept base look cs with
  | some (m, l, δ) => (.pure m (.agg l), δ, δ.isEmpty)
  | none => (.agg cs, [], false)

def isAggT (t : TypeId) : Bool :=
  match P.underlying t with
  | some (.struct _) | some (.array ..) => true
  | _ => false

/-- A type that is known, and takes room. -/
def okT (t : TypeId) : Bool := decide (0 < P.cellsOf t) && (P.underlying t).isSome

def ofCells (ag : Bool) (cs : List PV) : Option PV :=
  if ag then some (.agg cs) else match cs with
    | [x] => some x
    | _ => none

/-- A list with others written over it from a place on. -/
def putL {α : Type} : List α → Nat → List α → List α
  | l, _, [] => l
  | l, i, x :: r => putL (l.set i x) (i + 1) r

def loadV (base : Nat) (look : Nat → Option Ob) (t : TypeId) (a : SV) : Option Eff :=
  if okT P t = false then none else
  let n := P.cellsOf t
  let ag := isAggT P t
  match a with
  | .ptr k off => match look k with
    | some (.box cs) => if off + n ≤ cs.length then
        if ag then
          let g := gather base look ((cs.drop off).take n)
          some { res := g.1, wr := g.2.1, rd := some (k :: refsL ((cs.drop off).take n)) }
        else match (cs.drop off).take n with
          | [v] => some { res := v, rd := some [k] }
          | _ => none
      else none
    | some (.fbox m cs) => if off + n ≤ cs.length then match ofCells ag ((cs.drop off).take n) with
        | some x => some { res := .pure m x, rd := some [k] }
        | none => none
      else none
    | _ => none
  | .eptr k len i r => match look k with
    | some (.row m z lim xs) => if len = xs.length then match xs[i]? with
        | some x => if r + n ≤ x.cells.length then match ofCells ag ((x.cells.drop r).take n) with
            | some y => some { res := .pure m y, rd := some [k] }
            | none => none
          else none
        | none => none
      else none
    | _ => none
  | .rptr m cs => if n ≤ cs.length then match ofCells ag (cs.take n) with
      | some y => some { res := .pure m y }
      | none => none
    else none
  | _ => none

def storeV (base : Nat) (look : Nat → Option Ob) (t : TypeId) (a x : SV) : Option Eff :=
  if okT P t = false then none else
  let n := P.cellsOf t
  match a with
  | .ptr k off => match look k with
    | some (.box cs) => match cellsOf x with
      | some l => if l.length = n ∧ off + n ≤ cs.length then some { res := .dead, wr := [(k, .box (putL cs off l))], rd := some [k] } else none
      | none => none
    | _ => none
  | .eptr k len i r => match freezeN base look x with
    | some (m', y, δ) => match over δ look k with
      | some (.row m z lim xs) => if len = xs.length ∧ lim ≤ i then match xs[i]? with
          | some old => if y.cells.length = n ∧ r + n ≤ old.cells.length then
              match ofCells old.isAgg (putL old.cells r y.cells) with
              | some new => some { res := .dead, wr := (k, .row (m && (m' || y.scalar)) z lim (xs.set i new)) :: δ, rd := some (k :: refs x) }
              | none => none
            else none
          | none => none
        else none
      | _ => none
    | none => none
  | _ => none

def zerosOf (t : TypeId) : Option (List PV) :=
  match (P.info? t).bind (·.zero) with
  | some v => mapOpt constC v.cells.toList
  | none => none

/-- The cells of a new variable: each nil slice is a row of its own. -/
def newCells : Nat → List PV → List SV × Store
  | _, [] => ([], [])
  | k, .sl [] :: r => let (l, δ) := newCells (k + 1) r; (.row k 0 :: l, (k, .row true 0 0 []) :: δ)
  | k, x :: r => let (l, δ) := newCells k r; (.pure true x :: l, δ)

def nils : List PV → Nat
  | [] => 0
  | .sl [] :: r => nils r + 1
  | _ :: r => nils r

def freshKeys (look : Nat → Option Ob) : Nat → Nat → Bool
  | _, 0 => true
  | k, n + 1 => (look k).isNone && freshKeys look (k + 1) n

/-! ### the operations -/
/-- Has each of them so many cells? -/
def allW (z : Nat) : List PV → Bool
  | [] => true
  | x :: r => decide (x.cells.length = z) && allW z r

def allocV (base nk : Nat) (look : Nat → Option Ob) (t : TypeId) : Option Eff :=
  match zerosOf P t with
  | some l => if freshKeys look nk 16 && decide (nils l < 16) then
      let c := newCells (nk + 1) l
      some { res := .ptr nk 0, wr := (nk, .box c.1) :: c.2, rd := some ((List.range 16).map (nk + ·)) }
    else none
  | none => none

def boxV (nk : Nat) (look : Nat → Option Ob) (x : SV) : Option Eff :=
  match cellsOf x with
  | some l => if (look nk).isNone then some { res := .ptr nk 0, wr := [(nk, .box l)], rd := some [nk] } else none
  | none => none

def fillV (place : Nat → Option (Nat × Nat)) (cells : List SV) : List (Nat × SV) → Option (List SV)
  | [] => some cells
  | (i, v) :: r => match place i, cellsOf v with
    | some (off, n), some l => if l.length = n ∧ off + n ≤ cells.length then fillV place (putL cells off l) r else none
    | _, _ => none

/-- Where the parts of a struct or an array stand. -/
def placeV (t : TypeId) : Option (Nat → Option (Nat × Nat)) :=
  match P.underlying t with
  | some (.struct fields) => if fields.toList.all fun f => decide (0 < P.cellsOf f.type) then some fun i => match fields[i]? with
      | some f => some (f.offset, P.cellsOf f.type)
      | none => none
    else none
  | some (.array _ e) => if 0 < P.cellsOf e then some fun i => some (i * P.cellsOf e, P.cellsOf e) else none
  | _ => none

def buildV (base : Nat) (look : Nat → Option Ob) (t : TypeId) (parts : List (Nat × SV)) : Option Eff :=
  match zerosOf P t, placeV P t with
  | some z, some place => match fillV place (z.map fun x => .pure true (asNil x)) parts with
    | none => none
    | some l =>
      let g := gather base look l
      some { res := g.1, wr := g.2.1, rd := some (refsL l) }
  | _, _ => none

/-- The elements of a slice that is written out. -/
def elemsV (base : Nat) (look : Nat → Option Ob) (ag : Bool) (z : Nat) : List PV → List (Nat × SV) → Option (Bool × List PV × Store)
  | xs, [] => some (true, xs, [])
  | xs, (i, v) :: r => match freezeN base look v with
    | some (m, y, δ) => if y.isAgg = ag ∧ y.cells.length = z ∧ i < xs.length then
        match elemsV base (over δ look) ag z (xs.set i y) r with
        | some (m', l, δ') => some (m && m', l, δ' ++ δ)
        | none => none
      else none
    | none => none

def zeroAgg (t : TypeId) : Bool :=
  match (P.info? t).bind (·.zero) with
  | some (.agg _) => true
  | _ => false

def zeroE (t : TypeId) : Option PV :=
  match zerosOf P t with
  | some l => if l.length = P.cellsOf t ∧ zeroAgg P t = isAggT P t then ofCells (isAggT P t) l else none
  | none => none

def buildSliceV (base nk : Nat) (look : Nat → Option Ob) (t : TypeId) (len : Nat) (parts : List (Nat × SV)) : Option Eff :=
  match P.underlying t with
  | some (.slice e) => match zeroE P e with
    | some y => if len * P.cellsOf e ≤ 2 ^ 24 ∧ 0 < P.cellsOf e then
        match elemsV base look (isAggT P e) (P.cellsOf e) (List.replicate len y) parts with
        | some (m, xs, δ) => if (over δ look nk).isNone then
            some { res := .row nk len, wr := (nk, .row (m || allScalar xs) (P.cellsOf e) 0 xs) :: δ, rd := some (nk :: refsL (parts.map (·.2))) }
          else none
        | none => none
      else none
    | none => none
  | _ => none

def makeSliceV (nk : Nat) (look : Nat → Option Ob) (t : TypeId) (l c : SV) : Option Eff :=
  match P.underlying t, l, c with
  | some (.slice e), .pure _ (.int .i64 l), .pure _ (.int .i64 c) => match zeroE P e with
    | some y => if 0 ≤ l ∧ l ≤ c ∧ c * P.bytesOf e ≤ 140737488355328 ∧ c ≤ 140737488355328 ∧ 0 < P.cellsOf e ∧ (look nk).isNone then
        some { res := .row nk l.toNat, wr := [(nk, .row true (P.cellsOf e) 0 (List.replicate l.toNat y))], rd := some [nk] }
      else none
    | none => none
  | _, _, _ => none

def intOf : SV → Option Int
  | .pure _ (.int _ n) => some n
  | _ => none

def bound (v : Option SV) (d : Nat) : Option Nat :=
  match v with
  | none => some d
  | some v => match intOf v with
    | some n => if 0 ≤ n then some n.toNat else none
    | none => none

/-- Does what is left of a row, past its first elements, go on as a row of its own (told at the texts' laying)? -/
def keepTails : Bool := true
structure TailQ where
  k : Nat
  n : Nat
  m : Bool
  z : Nat
  xs : List PV
  l : Nat
def tailQ (base : Nat) (look : Nat → Option Ob) (t : TypeId) (x : SV) (lo hi : Option SV) : Option TailQ :=
  if keepTails && hi.isNone then match P.underlying t, x with
    | some (.slice e), .row k n => match look k with
      | some (.row m z _ xs) => match bound lo 0 with
        | some l => if (0 < l ∨ k < base) ∧ l < n ∧ n = xs.length ∧ z = P.cellsOf e ∧ 0 < z then some ⟨k, n, m, z, xs, l⟩ else none
        | none => none
      | _ => none
    | _, _ => none
  else none

def sliceV (base : Nat) (look : Nat → Option Ob) (t : TypeId) (x : SV) (lo hi : Option SV) : Option Eff :=
  match P.underlying t, x with
  | some .string, .pure _ (.str s) => match bound lo 0, bound hi s.length with
    | some l, some h => if l ≤ h ∧ h ≤ s.length then some { res := .pure true (.str ((s.drop l).take (h - l))) } else none
    | _, _ => none
  | some (.slice e), .pure m (.sl xs) => match bound lo 0, bound hi xs.length with
    | some l, some h => if l ≤ h ∧ h ≤ xs.length ∧ 0 < P.cellsOf e ∧ allW (P.cellsOf e) xs then some { res := .pure m (.sl ((xs.drop l).take (h - l))) } else none
    | _, _ => none
  | some (.slice e), .row k n => match freeze base look (.row k n) with
    | some (m, .sl xs, δ) => match bound lo 0, bound hi xs.length with
      | some l, some h => if l ≤ h ∧ h ≤ xs.length ∧ 0 < P.cellsOf e ∧ allW (P.cellsOf e) xs then some { res := .pure m (.sl ((xs.drop l).take (h - l))), wr := δ, rd := some [k] } else none
      | _, _ => none
    | _ => none
  | some (.array n e), .ptr k off => match bound lo 0, bound hi n with
    | some l, some h => if l ≤ h ∧ h ≤ n ∧ 0 < P.cellsOf e ∧ l < n then some { res := .view k (off + l * P.cellsOf e) (P.cellsOf e) (h - l) } else none
    | _, _ => none
  | _, _ => none

/-- Is a row's beginning told by its key (told at the texts' laying)? -/
def keepHeads : Bool := true
def headQ (look : Nat → Option Ob) (t : TypeId) (x : SV) (lo hi : Option SV) : Option (Nat × Nat × Nat) :=
  if keepHeads && lo.isNone then match P.underlying t, x with
    | some (.slice e), .row k n => match look k with
      | some (.row _ z _ xs) => match bound hi n with
        | some h => if 0 < n ∧ h ≤ n ∧ n = xs.length ∧ z = P.cellsOf e ∧ 0 < z then some (k, n, h) else none
        | none => none
      | _ => none
    | _, _ => none
  else none

def sliceT (base nk : Nat) (look : Nat → Option Ob) (t : TypeId) (x : SV) (lo hi : Option SV) : Option Eff :=
  match tailQ P base look t x lo hi with
  | some q => if q.k < base then some { res := .tl q.k q.n q.l, rd := some [q.k] } else if (look nk).isNone then some { res := .row nk (q.n - q.l), wr := [(nk, .row q.m q.z (q.n - q.l) (q.xs.drop q.l)), (q.k, .row q.m q.z q.n (q.xs ++ [.bool false]))], rd := some [nk, q.k] } else none
  | none => match headQ P look t x lo hi with
    | some (k, n, h) => some { res := .hd k n h, rd := some [k] }
    | none => sliceV P base look t x lo hi

/-- Does a place in a row still stand? -/
def stands (look : Nat → Option Ob) (k len : Nat) : Bool :=
  match look k with
  | some (.row _ _ _ xs) => decide (len = xs.length)
  | _ => false

def fieldAddrV (look : Nat → Option Ob) (t : TypeId) (x : SV) (f : Nat) : Option Eff :=
  match P.underlying t with
  | some (.struct fields) => match fields[f]? with
    | some fl => if P.cellsOf fl.type = 0 then none else match x with
      | .ptr k off => some { res := .ptr k (off + fl.offset) }
      | .eptr k len i r => if stands look k len then some { res := .eptr k len i (r + fl.offset), rd := some [k] } else none
      | .rptr m cs => some { res := .rptr m (cs.drop fl.offset) }
      | _ => none
    | none => none
  | _ => none

def fieldV (t : TypeId) (x : SV) (f : Nat) : Option SV :=
  match P.underlying t with
  | some (.struct fields) => match fields[f]? with
    | some fl => match x with
      | .pure m (.agg cs) => if fl.offset + P.cellsOf fl.type ≤ cs.length ∧ okT P fl.type then match ofCells (isAggT P fl.type) ((cs.drop fl.offset).take (P.cellsOf fl.type)) with
          | some y => some (.pure m y)
          | none => none
        else none
      | .agg cs => if isAggT P fl.type ∨ okT P fl.type = false then none else cs[fl.offset]?
      | _ => none
    | none => none
  | _ => none

def indexAddrV (base : Nat) (look : Nat → Option Ob) (t : TypeId) (x i : SV) : Option Eff :=
  match intOf i with
  | none => none
  | some i => if i < 0 then none else match P.underlying t, x with
    | some (.array n e), .ptr k off => if i < n ∧ 0 < P.cellsOf e then some { res := .ptr k (off + i.toNat * P.cellsOf e) } else none
    | some (.array n e), .eptr k len j r => if i < n ∧ 0 < P.cellsOf e ∧ stands look k len then some { res := .eptr k len j (r + i.toNat * P.cellsOf e), rd := some [k] } else none
    | some (.array n e), .rptr m cs => if i < n ∧ 0 < P.cellsOf e then some { res := .rptr m (cs.drop (i.toNat * P.cellsOf e)) } else none
    | some (.slice e), .pure m (.sl xs) => match xs[i.toNat]? with
      | some y => if y.cells.length = P.cellsOf e ∧ 0 < P.cellsOf e then some { res := .rptr m y.cells } else none
      | none => none
    | some (.slice e), .row k len => match look k with
      | some (.row m z lim xs) => if i.toNat < len then match xs[i.toNat]? with
          | some y => if z = P.cellsOf e ∧ 0 < P.cellsOf e then (if len = xs.length then some { res := .eptr k len i.toNat 0, rd := some [k] } else if y.cells.length = P.cellsOf e then some { res := .rptr false y.cells, rd := some [k] } else none) else none
          | none => none
        else none
      | _ => none
    | some (.slice e), .view k off z n => if i < n ∧ z = P.cellsOf e ∧ 0 < P.cellsOf e then some { res := .ptr k (off + i.toNat * z) } else none
    | some (.slice e), .hd k len h => match look k with
      | some (.row _ z _ xs) => if i.toNat < h ∧ len = xs.length ∧ z = P.cellsOf e ∧ 0 < P.cellsOf e then some { res := .eptr k len i.toNat 0, rd := some [k] } else none
      | _ => none
    | _, _ => none

def indexV (t : TypeId) (x i : SV) : Option SV :=
  match intOf i with
  | none => none
  | some i => if i < 0 then none else match P.underlying t, x with
    | some (.array n e), .pure m (.agg cs) => if i < n ∧ i.toNat * P.cellsOf e + P.cellsOf e ≤ cs.length ∧ okT P e then
        match ofCells (isAggT P e) ((cs.drop (i.toNat * P.cellsOf e)).take (P.cellsOf e)) with
        | some y => some (.pure m y)
        | none => none
      else none
    | some .string, .pure _ (.str s) => match s[i.toNat]? with
      | some b => some (.pure true (.int .u8 b.toNat))
      | none => none
    | _, _ => none

/-- The value of a key, if it is there. -/
def mapFind {α : Type} (x : PV) : List (PV × α) → Option (Option α)
  | [] => some none
  | (k, v) :: r => if x.isAgg = k.isAgg then match eqCells x.cells k.cells with
      | some true => some (some v)
      | some false => mapFind x r
      | none => none
    else none

def mapPut {α : Type} (x : PV) (v : α) : List (PV × α) → List (PV × α)
  | [] => [(x, v)]
  | (k, u) :: r => match eqCells x.cells k.cells with
    | some true => (x, v) :: r
    | _ => (k, u) :: mapPut x v r

/-- May it be a key of a map with keys of that type? -/
def keyT (t : TypeId) (x : PV) : Bool :=
  match P.underlying t, x with
  | some (.int _), .int .. | some .string, .str _ | some .bool, .bool _ => true
  | some (.struct _), .agg a => match E.eqT t with
    | some ks => hasKc ks a
    | none => false
  | _, _ => false

def pairV (ok : Bool) (v : SV) (is : Bool) : SV := if ok then .tuple [v, .pure true (.bool is)] else v

def lookupV (look : Nat → Option Ob) (t : TypeId) (x i : SV) (ok : Bool) : Option Eff :=
  match P.underlying t, i with
  | some (.map kt e), .pure _ key => if keyT P E kt key then match zeroE P e with
    | some y => match x with
      | .map k => match look k with
        | some (.map m es) => match mapFind key es with
          | some (some v) => some { res := pairV ok (.pure m v) true, rd := some [k] }
          | some none => some { res := pairV ok (.pure true y) false, rd := some [k] }
          | none => none
        | some (.maps es) => match mapFind key es with
          | some (some v) => some { res := pairV ok v true, rd := some [k] }
          | some none => some { res := pairV ok (.pure true y) false, rd := some [k] }
          | none => none
        | _ => none
      | .pure _ (.opq (.map none)) => some { res := pairV ok (.pure true y) false }
      | _ => none
    | none => none
    else none
  | _, _ => none

def mapUpdateV (base : Nat) (look : Nat → Option Ob) (t : TypeId) (x i v : SV) : Option Eff :=
  match P.underlying t, x, i with
  | some (.map kt e), .map k, .pure _ key => if keyT P E kt key then match look k with
    | some (.map _ _) => match freezeN base look v with
      | some (m', y, δ) => match over δ look k with
        | some (.map m es) => match mapFind key es with
          | some _ => some { res := .dead, wr := (k, .map (m && (m' || y.scalar)) (mapPut key y es)) :: δ, rd := some (k :: refs v) }
          | none => none
        | _ => none
      | none => none
    | some (.maps es) => match mapFind key es with
      | some _ => some { res := .dead, wr := [(k, .maps (mapPut key v es))], rd := some [k] }
      | none => none
    | _ => none
    else none
  | _, _, _ => none

def makeMapV (nk : Nat) (look : Nat → Option Ob) (t : TypeId) : Option Eff :=
  if (look nk).isNone then match P.underlying t with
    | some (.map _ e) => match P.underlying e with
      | some (.pointer _) | some (.func ..) | some (.map ..) => some { res := .map nk, wr := [(nk, .maps [])], rd := some [nk] }
      | _ => some { res := .map nk, wr := [(nk, .map true [])], rd := some [nk] }
    | _ => none
  else none

def strOf : List PV → Option (List UInt8)
  | [] => some []
  | .int .u8 n :: r => match strOf r with
    | some l => some (UInt8.ofNat n.toNat :: l)
    | none => none
  | _ :: _ => none

def bytesOf (s : List UInt8) : List PV := s.map fun b => .int .u8 b.toNat

/-- What a slice of elements of so many cells holds, as it is read (nothing is written by that). -/
def readS (look : Nat → Option Ob) (z : Nat) : SV → Option (Bool × List PV × List Nat)
  | .pure m (.sl xs) => if allW z xs then some (m, xs, []) else none
  | .pure _ (.str s) => if z = 1 then some (true, bytesOf s, []) else none
  | .pure _ (.opq (.slice none 0 0)) => some (true, [], [])
  | .row k len => match look k with
    | some (.row m z' lim xs) => if len = xs.length ∧ (z' = z ∨ xs = []) then some (m, xs, [k]) else if len ≤ xs.length ∧ z' = z then some (false, xs.take len, [k]) else none
    | _ => none
  | .view k off z' n => match look k with
    | some (.box cs) => match pures cs with
      | some (m, l) => if z' = 1 ∧ z = 1 ∧ off + n ≤ l.length then some (m, (l.drop off).take n, [k]) else none
      | none => none
    | some (.fbox m l) => if z' = 1 ∧ z = 1 ∧ off + n ≤ l.length then some (m, (l.drop off).take n, [k]) else none
    | _ => none
  | _ => none

def isStrV : SV → Bool
  | .pure _ (.str _) => true
  | _ => false

def convertV (nk : Nat) (look : Nat → Option Ob) (src dst : TypeId) (x : SV) : Option Eff :=
  match P.underlying src, P.underlying dst with
  | some (.int _), some (.int k) => match x with
    | .pure _ (.int _ n) => some { res := .pure true (.int k (k.wrap n)) }
    | _ => none
  | some .string, some .string => match x with
    | .pure _ (.str s) => some { res := .pure true (.str s) }
    | _ => none
  | some .string, some (.slice e) => match P.underlying e, x with
    | some (.int .u8), .pure _ (.str s) => if (look nk).isNone then
        some { res := .row nk s.length, wr := [(nk, .row true 1 0 (bytesOf s))], rd := some [nk] } else none
    | _, _ => none
  | some (.slice e), some (.slice _) => match P.underlying e, x with
    | some (.int .u8), .row k len => match look k with
      | some (.row m z lim xs) => if src = dst ∧ len = xs.length ∧ xs ≠ [] then some { res := .row k len, wr := [(k, .row m z lim xs)], rd := some [k] } else none
      | _ => none
    | _, _ => none
  | some (.slice e), some .string => match P.underlying e, readS look 1 x with
    | some (.int .u8), some (_, xs, ks) => if isStrV x then none else match strOf xs with
      | some s => some { res := .pure true (.str s), rd := some ks }
      | none => none
    | _, _ => none
  | _, _ => none

def lenV (look : Nat → Option Ob) (t : TypeId) (x : SV) : Option Eff :=
  match P.underlying t, x with
  | some .string, .pure _ (.str s) => some { res := .pure true (.int .i64 s.length) }
  | some (.array n _), _ => some { res := .pure true (.int .i64 n) }
  | some (.slice _), .pure _ (.sl xs) => some { res := .pure true (.int .i64 xs.length) }
  | some (.slice _), .pure _ (.opq (.slice none 0 0)) => some { res := .pure true (.int .i64 0) }
  | some (.slice _), .row _ n => some { res := .pure true (.int .i64 n) }
  | some (.slice _), .view _ _ _ n => some { res := .pure true (.int .i64 n) }
  | some (.slice _), .hd _ _ h => some { res := .pure true (.int .i64 h) }
  | some (.map ..), .pure _ (.opq (.map none)) => some { res := .pure true (.int .i64 0) }
  | some (.map ..), .map k => match look k with
    | some (.map _ es) => some { res := .pure true (.int .i64 es.length), rd := some [k] }
    | some (.maps es) => some { res := .pure true (.int .i64 es.length), rd := some [k] }
    | _ => none
  | _, _ => none

def minV : Int → List SV → Option Int
  | a, [] => some a
  | a, .pure _ (.int _ b) :: r => minV (if b < a then b else a) r
  | _, _ => none

def maxV : Int → List SV → Option Int
  | a, [] => some a
  | a, .pure _ (.int _ b) :: r => maxV (if b > a then b else a) r
  | _, _ => none

def isNilV : SV → Bool
  | .pure _ x => isNilP x
  | _ => false

def isSeqD : TypeDesc → Bool
  | .slice _ | .string => true
  | _ => false

/-- Is none of them a struct? -/
def allCell : List PV → Bool
  | [] => true
  | x :: r => !x.isAgg && allCell r

def appendV (nk : Nat) (look : Nat → Option Ob) (nilBase : Bool) (argTypes : Array TypeId) (s x : SV) : Option Eff :=
  match argTypes[0]?, argTypes[1]? with
  | some st, some xt => match P.underlying st, P.underlying xt with
    | some (.slice e), some d =>
      if isSeqD d = true ∧ 0 < P.cellsOf e ∧ 0 < P.bytesOf e ∧ (zeroE P e).isSome then
        match readS look (P.cellsOf e) x with
        | some (m', ys, ks) =>
          if nilBase || isNilV s then
            if (look nk).isNone ∧ ys.length * P.bytesOf e ≤ 140737488355328 then
              some { res := .row nk ys.length, wr := [(nk, .row (m' || allScalar ys) (P.cellsOf e) 0 ys)], rd := some (nk :: ks) }
            else none
          else match s with
            | .row k len => match look k with
              | some (.row m z lim xs) => if len = xs.length ∧ (z = P.cellsOf e ∨ z = 0) ∧ (xs.length + ys.length) * P.bytesOf e ≤ 140737488355328 then
                  some { res := .row k (xs.length + ys.length), wr := [(k, .row (m && (m' || allScalar ys)) (P.cellsOf e) xs.length (xs ++ ys))], rd := some (k :: ks) }
                else none
              | _ => none
            | _ => none
        | none => none
      else none
    | _, _ => none
  | _, _ => none

def copyV (look : Nat → Option Ob) (argTypes : Array TypeId) (d x : SV) : Option Eff :=
  match argTypes[0]? with
  | some t => match P.underlying t with
    | some (.slice e) => if 0 < P.cellsOf e then match readS look (P.cellsOf e) x with
        | some (m', ys, ks) => match d with
          | .view k off z len => match look k with
            | some (.box cs) => if z = 1 ∧ P.cellsOf e = 1 ∧ off + len ≤ cs.length ∧ allCell ys then
                some { res := .pure true (.int .i64 ((min ys.length len : Nat) : Int)), wr := [(k, .box (putL cs off ((ys.take (min ys.length len)).map (.pure m'))))], rd := some (k :: ks) }
              else none
            | _ => none
          | _ => none
        | none => none
      else none
    | _ => none
  | none => none

/-- A slice that is cloned: a row of its own (nothing, where there is nothing). -/
def cloneV (z : Nat) (args : List SV) (look : Nat → Option Ob) (nk : Nat) : Option Eff :=
  match args with
  | [x] => if isStrV x then none else match readS look z x with
    | some (m', ys, ks) => if (look nk).isNone then some { res := .row nk ys.length, wr := [(nk, .row (m' || allScalar ys) z 0 ys)], rd := some (nk :: ks) } else none
    | none => none
  | _ => none

/-! ### calls -/
/-- A slot's value as an argument: a row is handed on as what it holds. -/
def isRowV (br : Bool) : SV → Bool
  | .row .. => !br
  | .hd .. => true
  | .view .. => true
  | _ => false

def argV (base : Nat) (br : Bool) : (Nat → Option Ob) → List SV → Option (List SV × Store)
  | _, [] => some ([], [])
  | look, v :: r => if isRowV br v then match freeze base look v with
      | some (_, x, δ) => match argV base br (over δ look) r with
        | some (l, δ') => some (.pure false x :: l, δ' ++ δ)
        | none => none
      | none => none
    else match argV base br look r with
      | some (l, δ') => some (dem v :: l, δ')
      | none => none

def putAll (look : Nat → Option Ob) (f : Nat → Option Nat) : List Nat → Nat → Store
  | [], _ => []
  | k :: r, n => match look k with
    | some ob => (n, renO f (demO ob)) :: putAll look f r (n + 1)
    | none => putAll look f r (n + 1)

/-- The callee's objects, back under the caller's keys. -/
def backAll (S : Store) (f : Nat → Option Nat) : List Nat → Nat → Store
  | [], _ => []
  | k :: r, n => match get S n with
    | some ob => (k, renO f ob) :: backAll S f r (n + 1)
    | none => backAll S f r (n + 1)

def callV (cf : FuncId → List SV → Store → Option (SV × Store)) (base nk : Nat) (br : Bool) (look : Nat → Option Ob) (g : FuncId) (args : List SV) : Option Eff :=
  match argV base br look args with
  | none => none
  | some (as, δ) =>
    let rs := refsL as
    match rs with
    | [] => match cf g as [] with
      | none => none
      | some (res, S1) =>
        if freshKeys look nk 16 && decide (S1.length ≤ 16) then
          let keys := (List.range S1.length).map (nk + ·)
          let f : Nat → Option Nat := fun i => keys[i]?
          let new := newV res && S1.all fun p => newO p.2
          some { res := ren f res, wr := backAll S1 f keys 0 ++ (if new then [] else δ), rd := some ((List.range 16).map (nk + ·) ++ refsL args) }
        else none
    | _ :: _ =>
      let look1 := over δ look
      let ks := reach look1 64 rs []
      let f : Nat → Option Nat := fun k => idx ks k 0
      match cf g (renL f as) (putAll look1 f ks 0) with
      | none => none
      | some (res, S1) =>
        if freshKeys look nk 16 && decide (S1.length ≤ ks.length + 16) then
          let keys := ks ++ (List.range (S1.length - ks.length)).map (nk + ·)
          let f : Nat → Option Nat := fun i => keys[i]?
          some { res := ren f res, wr := backAll S1 f keys 0 ++ δ, rd := none }
        else none

/-- What is left of a row is made nought. -/
def clearV (look : Nat → Option Ob) (argTypes : Array TypeId) (x : SV) : Option Eff :=
  match argTypes[0]? with
  | some t => match P.underlying t with
    | some (.slice e) => match x with
      | .tl k len i => match look k with
        | some (.row m z lim xs) => match zeroE P e with
          | some y => if len = xs.length ∧ lim ≤ i ∧ i < len ∧ z = P.cellsOf e ∧ 0 < z then some { res := .tuple [], wr := [(k, .row m z lim (xs.take i ++ List.replicate (len - i) y))], rd := some [k] } else none
          | none => none
        | _ => none
      | _ => none
    | _ => none
  | none => none

def callB (base nk : Nat) (look : Nat → Option Ob) (b : Builtin) (nilBase : Bool) (argTypes : Array TypeId) (args : List SV) : Option Eff :=
  match b, args with
  | .len, [x] => match argTypes[0]? with
    | some t => lenV P look t x
    | none => none
  | .append, [s, x] => appendV P nk look nilBase argTypes s x
  | .copy, [d, x] => copyV P look argTypes d x
  | .clear, [x] => clearV P look argTypes x
  | .min, .pure _ (.int k a) :: r => match minV a r with
    | some n => some { res := .pure true (.int k n) }
    | none => none
  | .max, .pure _ (.int k a) :: r => match maxV a r with
    | some n => some { res := .pure true (.int k n) }
    | none => none
  | _, _ => none

def isNilOp (x : Option Operand) : Bool :=
  match x with
  | some o => isNilSlice o
  | none => false

def one (v : SV) : Option Eff := some { res := v }

def scal (x : Option PV) : Option Eff :=
  match x with
  | some y => some { res := .pure true y }
  | none => none

/-- A text that is ranged over. -/
def rangeV (nk : Nat) (look : Nat → Option Ob) (t : TypeId) (x : SV) : Option Eff :=
  match P.underlying t, x with
  | some .string, .pure _ (.str s) => if (look nk).isNone then some { res := .iter nk, wr := [(nk, .iter s 0)], rd := some [nk] } else none
  | _, _ => none

def nextV (look : Nat → Option Ob) (it : SV) : Option Eff :=
  match it with
  | .iter k => match look k with
    | some (.iter s pos) => if pos < s.length then
        let d := Utf8.decode ⟨s.toArray⟩ pos
        some { res := .tuple [.pure true (.bool true), .pure true (.int .i64 pos), .pure true (.int .i32 d.1)], wr := [(k, .iter s (pos + d.2))], rd := some [k] }
      else some { res := .tuple [.pure true (.bool false)], rd := some [k] }
    | _ => none
  | _ => none

def arrayAtV (t : TypeId) (x : SV) : Option SV :=
  match P.underlying t, x with
  | some (.array n e), .pure m (.sl xs) => if n ≤ xs.length ∧ 0 < n ∧ 0 < P.cellsOf e ∧ allW (P.cellsOf e) xs = true then some (.rptr m ((xs.take n).flatMap PV.cells)) else none
  | _, _ => none

def pickV (c a b : SV) : Option SV :=
  match c with
  | .pure _ (.bool t) => some (if t then a else b)
  | _ => none

def nilCheckV (look : Nat → Option Ob) (x : SV) : Option Eff :=
  match x with
  | .ptr k n => one (.ptr k n)
  | .eptr k a b c => if stands look k a then some { res := .eptr k a b c, rd := some [k] } else none
  | .rptr m cs => one (.rptr m cs)
  | .clo f l => one (.clo f l)
  | _ => none

def firstFree (look : Nat → Option Ob) : Nat → Nat → Option Nat
  | _, 0 => none
  | k, n + 1 => if (look k).isNone then some k else firstFree look (k + 1) n

def moveV (nk : Nat) (look : Nat → Option Ob) (nil : Bool) (x : SV) : Option Eff :=
  if nil then match firstFree look nk 16 with
    | some k => some { res := .row k 0, wr := [(k, .row true 0 0 [])], rd := some ((List.range 16).map (nk + ·)) }
    | none => none
  else one x

def extractV (x : SV) (i : Nat) : Option SV :=
  match x with
  | .tuple l => l[i]?
  | _ => none

def oneOf (x : Option SV) : Option Eff :=
  match x with
  | some v => one v
  | none => none

/-- An operation that is not guarded away. -/
def act (cf : FuncId → List SV → Store → Option (SV × Store)) (base : Nat) (o : Oper) (ev : Operand → SV) (look : Nat → Option Ob) : Option Eff :=
  let nk := base + 16 * (o.dst.getD 0)
  match o.op with
  | .move x | .assign x => moveV nk look (isNilSlice x) (ev x)
  | .pick c a b => oneOf (pickV (ev c) (ev a) (ev b))
  | .alloc t => allocV P base nk look t
  | .box t x => boxV nk look (ev x)
  | .build t ps => buildV P base look t (ps.toList.map fun p => (p.1, ev p.2))
  | .buildSlice t n ps => buildSliceV P base nk look t n (ps.toList.map fun p => (p.1, ev p.2))
  | .load t a => loadV P base look t (ev a)
  | .store t a x => storeV P base look t (ev a) (ev x)
  | .nilCheck x => nilCheckV look (ev x)
  | .binOp op t x y _ => scal (binV P E op t (ev x) (ev y))
  | .unOp op _ x => scal (unV op (ev x))
  | .convert a b x => convertV P nk look a b (ev x)
  | .sliceToArrayPointer t x => oneOf (arrayAtV P t (ev x))
  | .makeFunc (.func f) first caps => if first.size = 0 then one (.clo f (caps.toList.map ev)) else none
  | .makeMap t none => makeMapV P nk look t
  | .makeSlice t l c => makeSliceV P nk look t (ev l) (ev c)
  | .slice t x lo hi none => sliceT P base nk look t (ev x) (lo.map ev) (hi.map ev)
  | .fieldAddr t x f => fieldAddrV P look t (ev x) f
  | .field t x f => oneOf (fieldV P t (ev x) f)
  | .indexAddr t x i => indexAddrV P base look t (ev x) (ev i)
  | .index t x i => oneOf (indexV P t (ev x) (ev i))
  | .lookup t x i ok => lookupV P E look t (ev x) (ev i) ok
  | .mapUpdate t m k x | .insert t m k x => mapUpdateV P E base look t (ev m) (ev k) (ev x)
  | .range t x => rangeV P nk look t (ev x)
  | .next it true => nextV look (ev it)
  | .extract t i => oneOf (extractV (ev t) i)
  | .call c => match c.callee with
    | .value f => match ev f with
      | .clo g caps => match E.intr g with
        | some h => h (c.args.toList.map ev ++ caps) look nk
        | none => callV cf base nk (E.byRef g) look g (c.args.toList.map ev ++ caps)
      | _ => none
    | .builtin b => callB P base nk look b (isNilOp c.args[0]?) c.argTypes (c.args.toList.map ev)
    | .invoke .. => none
  | _ => none

/-! ### code -/
def yieldedV (ops : Array Oper) (s : Nat → Option SV) (j : Nat) (b : Bool) : Option Bool :=
  match (ops[j]?).bind (·.dst) with
  | some d => match s d with
    | some (.pure _ (.bool c)) => some (decide (c = b))
    | some (.tuple []) => some false
    | _ => none
  | none => none

def wantedV (ops : Array Oper) (o : Oper) (s : Nat → Option SV) : Option Bool :=
  match o.guard with
  | none => some true
  | some (j, b) => yieldedV ops s j b

def putS (s : Slots) (d : Option Nat) (v : SV) : Slots :=
  match d with
  | some d => (d, v) :: s
  | none => s

/-- One operation of a region; what it did. -/
def stepV (cf : FuncId → List SV → Store → Option (SV × Store)) (base top : Nat) (ops : Array Oper) (o : Oper) (σ : St) : Option (St × Eff) :=
  if top < base + 16 * (o.dst.getD 0) + 16 then none else
  match wantedV ops o (get σ.slots) with
  | none => none
  | some false => some (⟨putS σ.slots o.dst (.tuple []), σ.store⟩, { res := .tuple [] })
  | some true => match act P E cf base o (evalO E (get σ.slots)) (get σ.store) with
    | some e => some (⟨putS σ.slots o.dst e.res, e.wr ++ σ.store⟩, e)
    | none => none

def runOps (cf : FuncId → List SV → Store → Option (SV × Store)) (base top : Nat) (ops : Array Oper) : List Oper → St → Option St
  | [], σ => some σ
  | o :: r, σ => match stepV P E cf base top ops o σ with
    | some (σ1, _) => runOps cf base top ops r σ1
    | none => none

def traceOps (cf : FuncId → List SV → Store → Option (SV × Store)) (base top : Nat) (ops : Array Oper) : List Oper → St → Option (St × List Eff)
  | [], σ => some (σ, [])
  | o :: r, σ => match stepV P E cf base top ops o σ with
    | some (σ1, e) => match traceOps cf base top ops r σ1 with
      | some (σ2, l) => some (σ2, e :: l)
      | none => none
    | none => none

def disj (a b : List Nat) : Bool := a.all fun k => !b.contains k

/-- Do these two not meet? -/
def quietE (a b : Eff) : Bool :=
  (a.wr.isEmpty && b.wr.isEmpty) || (a.wr.isEmpty && a.rd == some []) || (b.wr.isEmpty && b.rd == some []) ||
  match a.rd, b.rd with
  | some ra, some rb => disj (a.wr.map (·.1)) (b.wr.map (·.1)) && disj (a.wr.map (·.1)) rb && disj (b.wr.map (·.1)) ra
  | _, _ => false

/-- Of a region whose order is drawn: what must stand ahead of each operation, at once or through others (of the binding edges); whatever isn't bound so has slots of its own. -/
def ancOk (ops : Array Oper) (anc : List (List Nat)) : Bool :=
  decide (anc.length = ops.size) &&
  (List.range ops.size).all fun j => match ops[j]?, anc[j]? with
    | some oj, some l =>
      (oj.after.toList.all fun e => !Region.binds .any e || decide (e.on < j)) &&
      (l.all fun i => oj.after.toList.any fun e => Region.binds .any e && (e.on == i || ((anc[e.on]?).getD []).contains i)) &&
      (List.range j).all fun i => l.contains i || match ops[i]? with
        | some oi => Oper.apart ops oi oj
        | none => false
    | _, _ => false

/-- The operations' effects, in the text's order: does each one not meet the others that it isn't bound to? -/
def turnsWith (i : Nat) (a : Eff) : List Eff → List (List Nat) → Bool
  | b :: r, l :: anc => (l.contains i || quietE a b) && turnsWith i a r anc
  | _, _ => true

def turnAll : Nat → List Eff → List (List Nat) → Bool
  | i, a :: r, _ :: anc => turnsWith i a r anc && turnAll (i + 1) r anc
  | _, _, _ => true

inductive Ex where
  | normal
  | exit (id : Nat)
  | ret
  deriving DecidableEq, Inhabited

/-- At a loop's head: the slots that are alive, in their order; the objects that they lead to, under keys of that order. -/
def firstRegion : Code → Nat
  | .region id _ _ => id
  | .seq a b => firstRegion a
  | .block _ c => firstRegion c
  | .loop c => firstRegion c
  | .cond _ a _ => firstRegion a
  | _ => 0

def keepS (s : Nat → Option SV) : List Nat → Slots
  | [] => []
  | i :: r => match s i with
    | some v => (i, v) :: keepS s r
    | none => keepS s r

def renS (f : Nat → Option Nat) : Slots → Slots
  | [] => []
  | (i, v) :: r => (i, ren f v) :: renS f r

def refsS : Slots → List Nat
  | [] => []
  | (_, v) :: r => refs v ++ refsS r

def takeAll (look : Nat → Option Ob) (f : Nat → Option Nat) (at_ : Nat → Nat) : List Nat → Nat → Store
  | [], _ => []
  | k :: r, n => match look k with
    | some ob => (at_ n, renO f ob) :: takeAll look f at_ r (n + 1)
    | none => takeAll look f at_ r (n + 1)

def canon (n0 top : Nat) (live : List Nat) (σ : St) : St :=
  let s := keepS (get σ.slots) live
  let ks := (reach (get σ.store) 256 (List.range n0 ++ refsS s) []).filter fun k => !decide (k < n0)
  let f : Nat → Option Nat := fun k => if k < n0 then some k else match idx ks k 0 with
    | some i => some (top + i)
    | none => none
  ⟨renS f s, takeAll (get σ.store) f id (List.range n0) 0 ++ takeAll (get σ.store) f (top + ·) ks 0⟩

def exec (cf : FuncId → List SV → Store → Option (SV × Store)) (base top : Nat) (ann : Nat → List Nat) (reg : Nat → List (List Nat)) : Nat → Code → St → Option (Ex × St)
  | 0, _, _ => none
  | n + 1, c, σ => match c with
    | .skip | .label _ => some (.normal, σ)
    | .region _ ops false => match runOps P E cf base top ops ops.toList σ with
      | some σ1 => some (.normal, σ1)
      | none => none
    | .region id ops true => match traceOps P E cf base top ops ops.toList σ with
      | some (σ1, l) => if turnAll 0 l (reg id) then some (.normal, σ1) else none
      | none => none
    | .seq a b => match exec cf base top ann reg n a σ with
      | some (.normal, σ1) => exec cf base top ann reg n b σ1
      | r => r
    | .cond x a b => match evalO E (get σ.slots) x with
      | .pure _ (.bool t) => if t then exec cf base top ann reg n a σ else exec cf base top ann reg n b σ
      | _ => none
    | .block id a => match exec cf base top ann reg n a σ with
      | some (.exit j, σ1) => if j = id then some (.normal, σ1) else some (.exit j, σ1)
      | r => r
    | .loop a => match exec cf base top ann reg n a (canon base top (ann (firstRegion a)) σ) with
      | some (.normal, σ1) => exec cf base top ann reg n (.loop a) σ1
      | r => r
    | .exit id => some (.exit id, σ)
    | .ret => some (.ret, σ)
    | _ => none

def argSlots : Nat → List SV → Slots
  | _, [] => []
  | i, v :: r => (i, v) :: argSlots (i + 1) r

/-- What is handed back: slices are their lists. -/
def back : SV → SV
  | .pure m x => .pure m (norm x)
  | v => v

def resOne (base : Nat) (σ : St) : ResultVar → Option (SV × Store)
  | .tmp t => match get σ.slots t with
    | some v => some (back v, [])
    | none => none
  | .cell a t => match get σ.slots a with
    | some x => match loadV P base (get σ.store) t x with
      | some e => some (back e.res, e.wr)
      | none => none
    | none => none

def resAll (base : Nat) : St → List ResultVar → Option (List SV × Store)
  | σ, [] => some ([], σ.store)
  | σ, r :: l => match resOne P base σ r with
    | some (v, δ) => match resAll base ⟨σ.slots, δ ++ σ.store⟩ l with
      | some (vs, S) => some (v :: vs, S)
      | none => none
    | none => none

def single : List SV → SV
  | [v] => v
  | l => .tuple l

/-- What a call hands back: the result, what was handed in (keys 0 to n0 - 1), and what the result leads to. -/
def leave (n0 : Nat) (res : SV) (S : Store) : SV × Store :=
  let ks := (reach (get S) 256 (List.range n0 ++ refs res) []).filter fun k => !decide (k < n0)
  let f : Nat → Option Nat := fun k => if k < n0 then some k else match idx ks k 0 with
    | some i => some (n0 + i)
    | none => none
  (ren f res, takeAll (get S) f id (List.range n0) 0 ++ takeAll (get S) f (n0 + ·) ks 0)

/-- Of a call to which no memory was handed: a row of plain values that is handed back beside plain values alone is nobody else's. -/
def plainV : SV → Bool
  | .pure _ x => x.scalar
  | _ => false
def rowOf : SV → Option Nat
  | .row 0 len => some len
  | .tuple l => match l.filter fun v => !plainV v with
    | [.row 0 len] => some len
    | _ => none
  | _ => none
def reset (n0 : Nat) (res : SV) (S : Store) : Store :=
  if n0 = 0 then match S, rowOf res with
    | [(0, .row _ z _ xs)], some len => if len = xs.length && allScalar xs then [(0, .row true z 0 xs)] else S
    | _, _ => S
  else S

def callF : Nat → FuncId → List SV → Store → Option (SV × Store)
  | 0, _, _, _ => none
  | n + 1, g, args, S0 =>
    match P.funcs[g]? with
    | some fn => match fn.body with
      | some c =>
        if fn.ntmps < args.length then none else
        let n0 := S0.length
        match exec P E (callF n) n0 (n0 + 16 * fn.ntmps) (E.ann g) (E.reg g) n c ⟨argSlots 0 args, S0⟩ with
        | some (.normal, σ) | some (.ret, σ) => match resAll P n0 σ fn.results.toList with
          | some (vs, S) => let r := leave n0 (single vs) S; some (r.1, reset n0 r.1 r.2)
          | none => none
        | _ => none
      | none => none
    | none => none

end
end Go.Proofs.YticdhmcbooabaaaDoor.V
