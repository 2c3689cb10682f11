/- V7: numbers, texts, comparisons, conversions, maps, iterators. No claim. -/
import Derived.Test.YticdhmcbooabaaaDoor6
import Derived.Laws.BytesArg
import Derived.Lib.ConvBytes
import Derived.Laws.StructEq
set_option linter.unusedVariables false
set_option linter.unusedSimpArgs false
namespace Go.Proofs.YticdhmcbooabaaaDoor.V
open Go

section
variable {B n0 : Nat} {ρ : Emb} {G : Cs} {w : World} {S : Look} {P : Program} {E : Env}

/-- Cells of those kinds. -/
def HasKs : List Kc → List Value → Prop
  | [], [] => True
  | .int k :: r, .int k' _ :: s => k = k' ∧ HasKs r s
  | .bool :: r, .bool _ :: s => HasKs r s
  | .str :: r, .string _ :: s => HasKs r s
  | _, _ => False

/-- Are plain cells alike? -/
def eqVs : List Value → List Value → Bool
  | [], [] => true
  | .int _ a :: r, .int _ b :: s => (a == b) && eqVs r s
  | .bool a :: r, .bool b :: s => (a == b) && eqVs r s
  | .string a :: r, .string b :: s => (a.toList == b.toList) && eqVs r s
  | _, _ => false

/-- What is asked of a struct's type whose values are compared cell by cell. -/
structure EqOk (P : Program) (t : TypeId) (ks : List Kc) : Prop where
  guard : P.eqGuardType P.depth t = false
  eq : ∀ (w : World) (xs ys : Array Value), HasKs ks xs.toList → HasKs ks ys.toList → (Op.equalIn 10000 t (.agg xs) (.agg ys)).run P w = .ok (eqVs xs.toList ys.toList) w
  key : ∀ (w : World) (em : Bool) (xs : Array Value), HasKs ks xs.toList → (Instr.checkKey em 10000 t (.agg xs)).run P w = .ok () w

structure EnvEq (P : Program) (E : Env) : Prop where
  eq : ∀ t ks, E.eqT t = some ks → EqOk P t ks

theorem hasKc_vals {ks : List Kc} {cs : List PV} {vs : List Value} (h : hasKc ks cs = true) (hl : vs.length = cs.length) (hr : ∀ (i : Nat) v c, vs[i]? = some v → cs[i]? = some c → RepV G w v c) : HasKs ks vs := by
  induction ks generalizing cs vs with
  | nil => cases cs <;> simp [hasKc] at h; cases vs <;> simp at hl; trivial
  | cons k r ih =>
    cases cs with
    | nil => cases k <;> simp [hasKc] at h
    | cons c cs =>
      cases vs with
      | nil => simp at hl
      | cons v vs =>
        have h0 := hr 0 v c rfl rfl
        have hrest := fun (i : Nat) v c hv hc => hr (i + 1) v c (by simpa using hv) (by simpa using hc)
        cases k with
        | int k =>
          cases c <;> simp [hasKc] at h
          cases h0
          exact ⟨h.1, ih h.2 (by simpa using hl) hrest⟩
        | bool =>
          cases c <;> simp [hasKc] at h
          cases h0
          exact ih h (by simpa using hl) hrest
        | str =>
          cases c <;> simp [hasKc] at h
          cases h0
          exact ih h (by simpa using hl) hrest

theorem eqCells_vals {as bs : List PV} {xs ys : List Value} {r : Bool} (h : eqCells as bs = some r) (hx : xs.length = as.length) (hy : ys.length = bs.length)
    (rx : ∀ (i : Nat) v c, xs[i]? = some v → as[i]? = some c → RepV G w v c) (ry : ∀ (i : Nat) v c, ys[i]? = some v → bs[i]? = some c → RepV G w v c) : eqVs xs ys = r := by
  induction as generalizing bs xs ys r with
  | nil =>
    cases bs <;> simp [eqCells] at h
    cases xs <;> simp at hx
    cases ys <;> simp at hy
    subst h
    rfl
  | cons a as ih =>
    cases bs with
    | nil => cases a <;> simp [eqCells] at h
    | cons b bs =>
      cases xs with
      | nil => simp at hx
      | cons x xs =>
        cases ys with
        | nil => simp at hy
        | cons y ys =>
          have h0 := rx 0 x a rfl rfl
          have h1 := ry 0 y b rfl rfl
          have hrx := fun (i : Nat) v c hv hc => rx (i + 1) v c (by simpa using hv) (by simpa using hc)
          have hry := fun (i : Nat) v c hv hc => ry (i + 1) v c (by simpa using hv) (by simpa using hc)
          cases a with
          | int k n =>
            cases b with
            | int k' n' =>
              simp only [eqCells] at h
              split at h
              · split at h
                · rename_i t ht
                  simp only [Option.some.injEq] at h
                  subst h
                  cases h0
                  cases h1
                  simp only [eqVs, ih ht (by simpa using hx) (by simpa using hy) hrx hry]
                  rfl
                · cases h
              · cases h
            | _ => simp [eqCells] at h
          | bool n =>
            cases b with
            | bool n' =>
              simp only [eqCells] at h
              split at h
              · rename_i t ht
                simp only [Option.some.injEq] at h
                subst h
                cases h0
                cases h1
                simp only [eqVs, ih ht (by simpa using hx) (by simpa using hy) hrx hry]
                rfl
              · cases h
            | _ => simp [eqCells] at h
          | str s =>
            cases b with
            | str s' =>
              simp only [eqCells] at h
              split at h
              · rename_i t ht
                simp only [Option.some.injEq] at h
                subst h
                cases h0
                cases h1
                simp only [eqVs, ih ht (by simpa using hx) (by simpa using hy) hrx hry]
                rw [ByteArray.toList_eq, ByteArray.toList_eq]
                congr 1
                rw [Bool.eq_iff_iff]
                simp
              · cases h
            | _ => simp [eqCells] at h
          | _ => simp [eqCells] at h

theorem agg_cells {G : Cs} {v : Value} {cs : List PV} (h : RepV G w v (.agg cs)) : ∃ vs : Array Value, v = .agg vs ∧ vs.toList.length = cs.length ∧ ∀ (i : Nat) u c, vs.toList[i]? = some u → cs[i]? = some c → RepV G w u c := by
  cases h with
  | agg vs _ hl hc hp => exact ⟨vs, rfl, by simpa using hl, fun i u c hu hcc => hc i u c (by simpa using hu) hcc⟩

/-! ### operators -/
theorem arith_run {op : BinOp} {k : IntKind} {a b : Int} {x : PV} {t : TypeId} (h : arith op k a b = some x) (hns : op ≠ .shl ∧ op ≠ .shr) (w : World) : ∃ u, (binOp op t (.int k a) (.int k b)).run P w = .ok u w ∧ ∀ G : Cs, RepV G w u x := by
  unfold arith at h
  cases op <;> simp only [reduceCtorEq, Option.some.injEq, ne_eq, not_true_eq_false, not_false_eq_true, false_and, and_false] at h hns
  all_goals first
    | (subst h
       refine ⟨.int k _, ?_, fun G => RepV.int ..⟩
       simp only [binOp, ne_eq, not_true_eq_false, if_false, Op.intArith, Op.intBits, Sem.run_pure]
       done)
    | (subst h
       refine ⟨.bool _, ?_, fun G => RepV.bool ..⟩
       simp only [binOp, ne_eq, not_true_eq_false, if_false, Op.intCmp, Sem.run_pure]
       done)
    | (split at h
       · cases h
       · rename_i hb
         simp only [Option.some.injEq] at h
         subst h
         refine ⟨.int k _, ?_, fun G => RepV.int ..⟩
         simp only [binOp, ne_eq, not_true_eq_false, if_false, Op.intDiv, hb, Sem.run_pure])

theorem shift_run {op : BinOp} {k k' : IntKind} {a b : Int} {x : PV} {t : TypeId} (h : shiftV op k a b = some x) (hs : op = .shl ∨ op = .shr) (w : World) : ∃ u, (binOp op t (.int k a) (.int k' b)).run P w = .ok u w ∧ ∀ G : Cs, RepV G w u x := by
  unfold shiftV at h
  split at h
  · cases h
  · rename_i hb
    rcases hs with rfl | rfl <;> simp only [Option.some.injEq] at h <;> subst h <;>
      exact ⟨_, by simp only [binOp, Op.shift, if_neg hb, Sem.run_pure], fun G => .int ..⟩

theorem str_run {op : BinOp} {a b : ByteArray} {x : PV} {t : TypeId} (h : strV op a.data.toList b.data.toList = some x) (w : World) : ∃ u, (binOp op t (.string a) (.string b)).run P w = .ok u w ∧ ∀ G : Cs, RepV G w u x := by
  unfold strV at h
  have e1 : a.toList = a.data.toList := ByteArray.toList_eq a
  have e2 : b.toList = b.data.toList := ByteArray.toList_eq b
  have key : ∀ op', binOp op' t (.string a) (.string b) = Op.stringOp op' a b := fun op' => by cases op' <;> rfl
  cases op <;> simp only [reduceCtorEq, Option.some.injEq] at h
  case add =>
    split at h
    · rename_i hle
      simp only [Option.some.injEq] at h
      subst h
      refine ⟨.string (a ++ b), ?_, fun G => ?_⟩
      · rw [key]
        simp only [Op.stringOp]
        rw [if_neg ?_]
        · rfl
        · simp only [IntKind.max, IntKind.signed, IntKind.bits, maxStr, Array.length_toList] at hle ⊢
          have : a.size = a.data.size := rfl
          have : b.size = b.data.size := rfl
          simp
          omega
      · have : (a ++ b).data.toList = a.data.toList ++ b.data.toList := by simp [ByteArray.data_append]
        rw [← this]
        exact .str _
    · cases h
  all_goals
    subst h
    exact ⟨_, by rw [key]; simp only [Op.stringOp, e1, e2, Sem.run_pure], fun G => .bool _⟩

/-- A result of plain data, nothing else done. -/
theorem scal_still (h : SInv ρ G B n0 w S) {s : Sem Value} {x : PV} {u : Value} (hr : s.run P w = .ok u w) (hv : ∀ G : Cs, RepV G w u x) {e : Eff} (he : scal (some x) = some e) : Comes1 P B n0 ρ G w S s e := by
  simp only [scal, Option.some.injEq] at he
  subst he
  exact Comes1.still h hr rfl (.pure _ _ _ (hv _))

theorem eqGuard_plain {op : BinOp} {t : TypeId} {x y : Operand} {a b : Value} (ha : ∀ cs, a ≠ .agg cs) (hb : a ≠ .nilIface) (w : World) : (eqGuard op t x y a b).run P w = .ok () w := by
  unfold eqGuard
  cases op <;> cases a <;> simp_all

theorem eqIn_func (d : Nat) {t : TypeId} {ps rs : Array TypeId} {v : Bool} (hu : P.underlying t = some (.func ps rs v)) (f : Fn) (a b : Array Value) (w : World) : (Op.equalIn (d + 1) t (.func f a b) .nilFunc).run P w = .ok false w := by
  simp [Op.equalIn, run_underlying hu]
theorem eqIn_func0 (d : Nat) {t : TypeId} {ps rs : Array TypeId} {v : Bool} (hu : P.underlying t = some (.func ps rs v)) (w : World) : (Op.equalIn (d + 1) t .nilFunc .nilFunc).run P w = .ok true w := by
  simp [Op.equalIn, run_underlying hu]
theorem eqIn_ptr (d : Nat) {t e : TypeId} (hu : P.underlying t = some (.pointer e)) (a : Addr) (w : World) : (Op.equalIn (d + 1) t (.pointer (some a)) (.pointer none)).run P w = .ok false w := by
  simp [Op.equalIn, run_underlying hu]
theorem eqIn_ptr0 (d : Nat) {t e : TypeId} (hu : P.underlying t = some (.pointer e)) (w : World) : (Op.equalIn (d + 1) t (.pointer none) (.pointer none)).run P w = .ok true w := by
  simp [Op.equalIn, run_underlying hu]

/-- '==' and '!=' on what is neither whole number nor text. -/
def OddV : Value → Prop
  | .bool _ | .func .. | .nilFunc => True
  | _ => False

theorem run_eq_of {t : TypeId} {a b : Value} {r : Bool} (h : ∀ w, (Op.equalIn (9999 + 1) t a b).run P w = .ok r w) (ha : OddV a) (w : World) :
    (binOp .eql t a b).run P w = .ok (.bool r) w ∧ (binOp .neq t a b).run P w = .ok (.bool !r) w := by
  have e1 : binOp .eql t a b = (do pure (.bool (← Op.equal t a b))) := by cases a <;> simp only [OddV] at ha <;> cases b <;> rfl
  have e2 : binOp .neq t a b = (do pure (.bool (!(← Op.equal t a b)))) := by cases a <;> simp only [OddV] at ha <;> cases b <;> rfl
  have e3 : (Op.equal t a b).run P w = .ok r w := h w
  rw [e1, e2]
  simp only [Sem.run_bind, e3, Result.andThen_ok, Sem.run_pure, and_self]

theorem run_eq_ptr {t : TypeId} {a b : Option Addr} {r : Bool} (h : ∀ w, (Op.equalIn (9999 + 1) t (.pointer a) (.pointer b)).run P w = .ok r w) (w : World) :
    (binOp .eql t (.pointer a) (.pointer b)).run P w = .ok (.bool r) w ∧ (binOp .neq t (.pointer a) (.pointer b)).run P w = .ok (.bool !r) w := by
  have e1 : binOp .eql t (.pointer a) (.pointer b) = (do pure (.bool (← Op.equal t (.pointer a) (.pointer b)))) := rfl
  have e2 : binOp .neq t (.pointer a) (.pointer b) = (do pure (.bool (!(← Op.equal t (.pointer a) (.pointer b))))) := rfl
  have e3 : (Op.equal t (.pointer a) (.pointer b)).run P w = .ok r w := h w
  rw [e1, e2]
  simp only [Sem.run_bind, e3, Result.andThen_ok, Sem.run_pure, and_self]

theorem bin_sound (hE : EnvEq P E) (h : SInv ρ G B n0 w S) {op : BinOp} {t : TypeId} {ox oy : Operand} {u v : Value} {x y : SV} (hx : RelV ρ G B n0 w S u x) (hy : RelV ρ G B n0 w S v y) {e : Eff} (he : scal (binV P E op t x y) = some e) :
    Comes1 P B n0 ρ G w S (do eqGuard op t ox oy u v; binOp op t u v) e := by
  cases hb : binV P E op t x y with
  | none => rw [hb] at he; cases he
  | some r =>
    rw [hb] at he
    unfold binV at hb
    split at hb
    · rename_i m1 k a m2 k' b
      cases hx with
      | pure _ _ _ hx =>
        cases hx
        cases hy with
        | pure _ _ _ hy =>
          cases hy
          have hg := eqGuard_plain (P := P) (op := op) (t := t) (x := ox) (y := oy) (a := .int k a) (b := .int k' b) (by simp) (by simp) w
          split at hb
          · obtain ⟨z, r1, r2⟩ := shift_run (P := P) (k' := k') (t := t) hb (.inl rfl) w
            exact scal_still h (by rw [Sem.run_bind, hg]; exact r1) r2 he
          · obtain ⟨z, r1, r2⟩ := shift_run (P := P) (k' := k') (t := t) hb (.inr rfl) w
            exact scal_still h (by rw [Sem.run_bind, hg]; exact r1) r2 he
          · rename_i hn1 hn2
            split at hb
            · rename_i hk
              subst hk
              obtain ⟨z, r1, r2⟩ := arith_run (P := P) (t := t) hb ⟨hn1, hn2⟩ w
              exact scal_still h (by rw [Sem.run_bind, hg]; exact r1) r2 he
            · cases hb
    · rename_i m1 a m2 b
      cases hx with
      | pure _ _ _ hx =>
        cases hx with
        | str a =>
          cases hy with
          | pure _ _ _ hy =>
            cases hy with
            | str b =>
              have hg := eqGuard_plain (P := P) (op := op) (t := t) (x := ox) (y := oy) (a := .string a) (b := .string b) (by simp) (by simp) w
              obtain ⟨z, r1, r2⟩ := str_run (P := P) (t := t) hb w
              exact scal_still h (by rw [Sem.run_bind, hg]; exact r1) r2 he
    · rename_i m1 a m2 b
      cases hx with
      | pure _ _ _ hx =>
        cases hx
        cases hy with
        | pure _ _ _ hy =>
          cases hy
          have hg := eqGuard_plain (P := P) (op := op) (t := t) (x := ox) (y := oy) (a := .bool a) (b := .bool b) (by simp) (by simp) w
          split at hb
          · rename_i hu
            simp only [Option.some.injEq] at hb
            subst hb
            refine scal_still h (u := .bool (a == b)) ?_ (fun G => .bool _) he
            rw [Sem.run_bind, hg]
            exact (run_eq_of (fun w => run_equalIn_bool' w 9999 t a b hu) trivial w).1
          · rename_i hu
            simp only [Option.some.injEq] at hb
            subst hb
            refine scal_still h (u := .bool !(a == b)) ?_ (fun G => .bool _) he
            rw [Sem.run_bind, hg]
            exact (run_eq_of (fun w => run_equalIn_bool' w 9999 t a b hu) trivial w).2
          · cases hb
    · rename_i m1 a m2 b
      cases hx with
      | pure _ _ _ hx =>
        cases hy with
        | pure _ _ _ hy =>
          split at hb
          · rename_i ks hks
            have hok := hE.eq t ks hks
            split at hb
            · rename_i hkk
              simp only [Bool.and_eq_true] at hkk
              obtain ⟨xs, rfl, lx, rx⟩ := agg_cells hx
              obtain ⟨ys, rfl, ly, ry⟩ := agg_cells hy
              have hg : (eqGuard op t ox oy (.agg xs) (.agg ys)).run P w = .ok () w := run_eqGuard_agg w op t ox oy xs ys hok.guard
              have hrun := hok.eq w xs ys (hasKc_vals hkk.1 lx rx) (hasKc_vals hkk.2 ly ry)
              split at hb
              · split at hb
                · rename_i q hq
                  simp only [Option.some.injEq] at hb
                  subst hb
                  rw [eqCells_vals (G := fun _ _ => True) hq lx ly (fun i v c hv hc => (rx i v c hv hc).weaken fun _ _ _ => trivial) (fun i v c hv hc => (ry i v c hv hc).weaken fun _ _ _ => trivial)] at hrun
                  refine scal_still h (u := .bool q) ?_ (fun G => .bool _) he
                  rw [Sem.run_bind, hg, Result.andThen_ok, run_eql_struct, hrun]
                  rfl
                · cases hb
              · split at hb
                · rename_i q hq
                  simp only [Option.some.injEq] at hb
                  subst hb
                  rw [eqCells_vals (G := fun _ _ => True) hq lx ly (fun i v c hv hc => (rx i v c hv hc).weaken fun _ _ _ => trivial) (fun i v c hv hc => (ry i v c hv hc).weaken fun _ _ _ => trivial)] at hrun
                  refine scal_still h (u := .bool !q) ?_ (fun G => .bool _) he
                  rw [Sem.run_bind, hg, Result.andThen_ok, run_neq_struct, hrun]
                  rfl
                · cases hb
              · cases hb
            · cases hb
          · cases hb
    · rename_i f caps m2
      cases hx with
      | clo _ _ vs hl hc =>
        cases hy with
        | pure _ _ _ hy =>
          cases hy
          have hg := eqGuard_plain (P := P) (op := op) (t := t) (x := ox) (y := oy) (a := .func (.func f) #[] vs) (b := .nilFunc) (by simp) (by simp) w
          split at hb
          · rename_i hu
            simp only [Option.some.injEq] at hb
            subst hb
            refine scal_still h (u := .bool false) ?_ (fun G => .bool _) he
            rw [Sem.run_bind, hg]
            exact (run_eq_of (fun w => eqIn_func 9999 hu _ _ _ w) trivial w).1
          · rename_i hu
            simp only [Option.some.injEq] at hb
            subst hb
            refine scal_still h (u := .bool true) ?_ (fun G => .bool _) he
            rw [Sem.run_bind, hg]
            exact (run_eq_of (fun w => eqIn_func 9999 hu _ _ _ w) trivial w).2
          · cases hb
    · cases hx with
      | pure _ _ _ hx =>
        cases hx
        cases hy with
        | pure _ _ _ hy =>
          cases hy
          have hg := eqGuard_plain (P := P) (op := op) (t := t) (x := ox) (y := oy) (a := .nilFunc) (b := .nilFunc) (by simp) (by simp) w
          split at hb
          · rename_i hu
            simp only [Option.some.injEq] at hb
            subst hb
            refine scal_still h (u := .bool true) ?_ (fun G => .bool _) he
            rw [Sem.run_bind, hg]
            exact (run_eq_of (fun w => eqIn_func0 9999 hu w) trivial w).1
          · rename_i hu
            simp only [Option.some.injEq] at hb
            subst hb
            refine scal_still h (u := .bool false) ?_ (fun G => .bool _) he
            rw [Sem.run_bind, hg]
            exact (run_eq_of (fun w => eqIn_func0 9999 hu w) trivial w).2
          · cases hb
    · rename_i k off m2
      cases hx with
      | ptr _ _ b c ob hk hr hbk =>
        cases hy with
        | pure _ _ _ hy =>
          cases hy
          have hg := eqGuard_plain (P := P) (op := op) (t := t) (x := ox) (y := oy) (a := .pointer (some ⟨b, off, none⟩)) (b := .pointer none) (by simp) (by simp) w
          split at hb
          · rename_i hu
            simp only [Option.some.injEq] at hb
            subst hb
            refine scal_still h (u := .bool false) ?_ (fun G => .bool _) he
            rw [Sem.run_bind, hg]
            exact (run_eq_ptr (fun w => eqIn_ptr 9999 hu _ w) w).1
          · rename_i hu
            simp only [Option.some.injEq] at hb
            subst hb
            refine scal_still h (u := .bool true) ?_ (fun G => .bool _) he
            rw [Sem.run_bind, hg]
            exact (run_eq_ptr (fun w => eqIn_ptr 9999 hu _ w) w).2
          · cases hb
    · cases hx with
      | pure _ _ _ hx =>
        cases hx
        cases hy with
        | pure _ _ _ hy =>
          cases hy
          have hg := eqGuard_plain (P := P) (op := op) (t := t) (x := ox) (y := oy) (a := .pointer none) (b := .pointer none) (by simp) (by simp) w
          split at hb
          · rename_i hu
            simp only [Option.some.injEq] at hb
            subst hb
            refine scal_still h (u := .bool true) ?_ (fun G => .bool _) he
            rw [Sem.run_bind, hg]
            exact (run_eq_ptr (fun w => eqIn_ptr0 9999 hu w) w).1
          · rename_i hu
            simp only [Option.some.injEq] at hb
            subst hb
            refine scal_still h (u := .bool false) ?_ (fun G => .bool _) he
            rw [Sem.run_bind, hg]
            exact (run_eq_ptr (fun w => eqIn_ptr0 9999 hu w) w).2
          · cases hb
    · cases hb

theorem un_sound (h : SInv ρ G B n0 w S) {op : UnOp} {u : Value} {x : SV} (hx : RelV ρ G B n0 w S u x) {e : Eff} (he : scal (unV op x) = some e) : Comes1 P B n0 ρ G w S (Op.unary op u) e := by
  unfold unV at he
  split at he
  · cases hx with
    | pure _ _ _ hx => cases hx; exact scal_still h rfl (fun G => .bool _) he
  · cases hx with
    | pure _ _ _ hx => cases hx; exact scal_still h rfl (fun G => .int ..) he
  · cases he

/-! ### conversions -/
theorem strOf_get {xs : List PV} {s : List UInt8} (h : strOf xs = some s) : ∃ ns : List Int, xs = ns.map (PV.int .u8) ∧ s = ns.map fun n => UInt8.ofNat n.toNat := by
  induction xs generalizing s with
  | nil => simp only [strOf, Option.some.injEq] at h; subst h; exact ⟨[], rfl, rfl⟩
  | cons x r ih =>
    cases x with
    | int k n =>
      cases k with
      | u8 =>
        simp only [strOf] at h
        split at h
        · rename_i l hl
          simp only [Option.some.injEq] at h
          subst h
          obtain ⟨ns, rfl, rfl⟩ := ih hl
          exact ⟨n :: ns, rfl, rfl⟩
        · cases h
      | _ => simp [strOf] at h
    | _ => simp [strOf] at h

/-- The mark that the run-time lays behind a constant text's bytes. -/
theorem marked_sound (h : SInv ρ G B n0 w S) {a el : TypeId} {v : Value} {k len : Nat} {m : Bool} {z lim : Nat} {xs : List PV} (hv : RelV ρ G B n0 w S v (.row k len)) (hk : S k = some (.row m z lim xs)) (hlen : len = xs.length) (hne : xs ≠ [])
    (hu : P.underlying a = some (.slice el)) (hu3 : P.underlying el = some (.int .u8)) :
    Comes1 P B n0 ρ G w S (convert a a v) { res := .row k len, wr := [(k, .row m z lim xs)], rd := some [k] } := by
  cases hv with
  | row _ _ A cap m1 z1 lim1 xs1 hk1 hrel =>
    rw [hk] at hk1
    cases hk1
    rcases hrel with ⟨_, ht⟩ | ⟨e1, e2, _⟩
    · obtain ⟨o1, o2, o3⟩ := h.obj k _ hk
      cases hb : ρ k with
      | none => rw [hb] at ht; exact absurd ht.2.2 hne
      | some p =>
        obtain ⟨b, c, f⟩ := p
        rw [hb] at ht
        obtain ⟨rfl, rfl⟩ := ht
        obtain ⟨o4, o5, cells, T, fr, vs, o6, o7, o8, o9, o10⟩ := o3 b cap f hb
        have hlt : b < w.heap.size := h.lt k b _ hb
        have hsh : w.shape? b = some (T, cells.size) := by
          unfold World.shape?
          rw [o6]
        have hheap : ∀ b', (w.freeze ⟨b, cells.size, none⟩ 1).heap[b']? = if b' = b then some (.cells cells T (if fr.1 == fr.2 then (cells.size, cells.size + 1) else (min fr.1 cells.size, max fr.2 (cells.size + 1)))) else w.heap[b']? := by
          intro b'
          unfold World.freeze
          rw [if_neg (by decide)]
          simp only [Array.getElem?_modify]
          by_cases e : b' = b
          · subst e
            simp [o6]
          · rw [if_neg (Ne.symm e), if_neg e]
        have hfree : Free (if fr.1 == fr.2 then (cells.size, cells.size + 1) else (min fr.1 cells.size, max fr.2 (cells.size + 1))) cells.size := by
          unfold Free at o7 ⊢
          split
          · exact .inr (Nat.le_refl _)
          · rename_i hne'
            have : ¬ fr.1 = fr.2 := by simpa using hne'
            refine .inr ?_
            have := o7.resolve_left this
            show cells.size ≤ min fr.1 cells.size
            omega
        have hself := hheap b
        rw [if_pos rfl] at hself
        have hset := inv_set (G' := G) (w' := w.freeze ⟨b, cells.size, none⟩ 1) (S' := over [(k, Ob.row m z lim xs)] S) (ob' := .row m z lim xs) h hk hb (fun j => over_one ..)
          (by unfold World.freeze; rw [if_neg (by decide)]; simp) (fun b' hb' => by rw [hheap, if_neg hb']) (by unfold World.freeze; rw [if_neg (by decide)]) (by unfold World.freeze; rw [if_neg (by decide)]) (by unfold World.freeze; rw [if_neg (by decide)])
          (fun b' o hg => .inl hg) (fun b' o hg => hg) (fun o hg => h.gobj k b (cap, f) _ o hb hk hg) (fun o v hg hv' => by rw [cell_of hself]; rw [cell_of o6] at hv'; exact hv') (Ev.refl ..)
          (fun hxt => ⟨o1, fun hn => absurd (hb.symm.trans hn) (by simp), fun b' c' f' hb' => by
            cases hb.symm.trans hb'
            exact ⟨o4, o5, cells, T, _, vs, hself, hfree, o8, o9, fun j x' hj => ⟨(o10 j x' hj).1, (o10 j x' hj).2.1.mono (hxt.gm _), (o10 j x' hj).2.2⟩⟩⟩)
        refine ⟨.slice (some ⟨b, f, none⟩) len cap, ρ, G, _, ?_, hset.1, hset.2, .row k len _ cap m z lim xs (by rw [over_one, if_pos rfl]) (.inl ⟨hlen, by rw [hb]; exact ⟨rfl, rfl⟩⟩)⟩
        simp [convert, run_underlying hu, run_underlying hu3, markStringish, hsh]
    · omega

theorem convert_sound (h : SInv ρ G B n0 w S) {nk : Nat} (hn : n0 ≤ nk) {a b : TypeId} {v : Value} {x : SV} (hv : RelV ρ G B n0 w S v x) {e : Eff} (he : convertV P nk S a b x = some e) : Comes1 P B n0 ρ G w S (convert a b v) e := by
  unfold convertV at he
  split at he
  · rename_i k1 k hu1 hu2
    split at he
    · rename_i m k' n
      simp only [Option.some.injEq] at he
      subst he
      cases hv with
      | pure _ _ _ hv =>
        cases hv
        refine Comes1.still h (u := .int k (k.wrap n)) ?_ rfl (.pure _ _ _ (.int ..))
        simp only [convert, Sem.run_bind, run_underlying hu1, run_underlying hu2, Result.andThen_ok]
        rfl
    · cases he
  · rename_i hu1 hu2
    split at he
    · rename_i m s
      simp only [Option.some.injEq] at he
      subst he
      cases hv with
      | pure _ _ _ hv =>
        cases hv with
        | str s =>
          refine Comes1.still h (u := .string s) ?_ rfl (.pure _ _ _ (.str _))
          simp only [convert, Sem.run_bind, run_underlying hu1, run_underlying hu2, Result.andThen_ok]
          rfl
    · cases he
  · rename_i el hu1 hu2
    split at he
    · rename_i m s hu3
      split at he
      · rename_i hk
        simp only [Option.some.injEq] at he
        subst he
        cases hv with
        | pure _ _ _ hv =>
          cases hv with
          | str s =>
            have hrun := Lib.run_convert_string_bytes w a b el s hu1 hu2 hu3
            have hcap : s.size ≤ grownCap w s.size 0 el := by
              unfold grownCap Question.cut
              simp
            have hcs : (Lib.bytesCells w el s).size = grownCap w s.size 0 el := by
              have : s.data.size = s.size := rfl
              simp [Lib.bytesCells]
              omega
            have hlen : (bytesOf s.data.toList).length = s.size := by simp [bytesOf]
            have hsz : s.data.toList.length = s.size := by simp
            obtain ⟨ρ', n1, n2, n3⟩ := new_row h (k := nk) (by simpa using hk) hn (cells := Lib.bytesCells w el s) (xs := bytesOf s.data.toList) (vs := fun j => ((s.data.toList[j]?).map fun b => Value.int .u8 b.toNat).getD undef) (m := true)
              (z := 1) (cap := grownCap w s.size 0 el) el ((Lib.bytesCells w el s).size, (Lib.bytesCells w el s).size + 1) (.inr (Nat.le_refl _)) Nat.one_pos (by rw [hlen]; exact hcap) (by omega) (fun j x hj => by
                obtain ⟨c, hc, rfl⟩ := bytes_get hj
                refine ⟨rfl, by simp only [hc, Option.map_some, Option.getD_some]; exact .int .., fun i v hv => ?_⟩
                simp only [hc, Option.map_some, Option.getD_some, Value.cells] at hv
                cases i with
                | zero =>
                  simp at hv
                  subst hv
                  have hlt : j < s.data.size := by have := (List.getElem?_eq_some_iff.1 hc).1; simpa using this
                  have : s.data[j]? = some c := by simpa using hc
                  simp only [Nat.mul_one, Nat.add_zero, Lib.bytesCells]
                  rw [Array.getElem?_append_left (by simpa using hlt), Array.getElem?_map, this]
                  rfl
                | succ i => simp at hv)
              (Lib.bytesWorld w el s) ⟨by rw [Lib.bytesWorld_size]; omega, fun b hb => Lib.bytesWorld_at_old w el s b hb, rfl, rfl, rfl⟩ (Lib.bytesWorld_at_new w el s) (by rw [Lib.bytesWorld_size]; omega)
              (over [(nk, Ob.row true 1 0 (bytesOf s.data.toList))] S) (fun j => over_one ..)
            rw [hlen] at n3
            refine ⟨_, ρ', G, _, hrun, n1, n2, ?_⟩
            rw [hsz]
            exact n3
      · cases he
    · cases he
  · rename_i el el2 hu1 hu2
    split at he
    · rename_i k len hu3
      split at he
      · rename_i m z lim xs hk
        split at he
        · rename_i hc
          obtain ⟨rfl, hlen, hne⟩ := hc
          simp only [Option.some.injEq] at he
          subst he
          rw [hu1] at hu2
          cases hu2
          exact marked_sound h hv hk hlen hne hu1 hu3
        · cases he
      · cases he
    · cases he
  · rename_i el hu1 hu2
    split at he
    · rename_i m xs ks hu3 hr
      split at he
      · cases he
      · rename_i hstr
        split at he
        · rename_i s hs
          simp only [Option.some.injEq] at he
          subst he
          have hrd := readS_sound (P := P) h Nat.one_pos hv hr
          obtain ⟨ns, rfl, rfl⟩ := strOf_get hs
          refine Comes1.still h (u := .string (strOfNums ns)) ?_ rfl (.pure _ _ _ (.str _))
          obtain ⟨cells, vs, c1, c2, c3⟩ := hrd.cells
          have hlen := hrd.len
          have hcell : cells = (ns.map (Value.int .u8)).toArray := by
            apply Array.ext
            · simp at c2; simpa using c2
            · intro i h1 h2
              have hi : i < ns.length := by simpa using h2
              have e1 : (ns.map (PV.int .u8))[i]? = some (.int .u8 ns[i]) := by simp [List.getElem?_eq_getElem hi]
              obtain ⟨_, h3, h4⟩ := c3 i _ e1
              have e2 : vs i = .int .u8 ns[i] := by
                generalize vs i = q at h3
                cases h3
                rfl
              rw [e2] at h4
              have := h4 0 (.int .u8 ns[i]) rfl
              simp only [Nat.mul_one, Nat.add_zero] at this
              rw [Array.getElem?_eq_getElem h1] at this
              simpa using this
          obtain ⟨A, n, cap, rfl⟩ : ∃ A n cap, v = .slice A n cap := by
            cases hv with
            | pure _ x _ hv =>
              cases x with
              | sl l => cases hv <;> exact ⟨_, _, _, rfl⟩
              | str s => simp [isStrV] at hstr
              | opq v' =>
                have hn : isNilP (.opq v') = true := by
                  unfold readS at hr
                  split at hr <;> simp_all [isNilP]
                exact ⟨_, _, _, isNilP_val hv hn⟩
              | _ => simp [readS] at hr
            | row k len A cap => exact ⟨_, _, _, rfl⟩
            | view => exact ⟨_, _, _, rfl⟩
            | _ => simp [readS] at hr
          have hn' : n = ns.length := by
            simp [Builtin.lenOf] at hlen
            exact hlen
          subst hn'
          rw [run_convert_bytes_string w a b el _ _ cap hu1 hu3 hu2]
          cases A with
          | none =>
            simp [Builtin.firstCells] at c1
            subst c1
            have : ns = [] := by
              have := congrArg Array.size hcell
              simpa using this.symm
            subst this
            rfl
          | some ad =>
            simp only [Builtin.firstCells, List.length_map, Nat.mul_one] at c1
            rw [hcell] at c1
            rw [run_bytesToString w ad ns.length cap ns c1, foldl_push_bytes]
            simp [strOfNums, ByteArray.empty, ByteArray.emptyWithCapacity]
            rfl
        · cases he
    · cases he
  · cases he

end
end Go.Proofs.YticdhmcbooabaaaDoor.V
