/- V2: how the model's memory bears what 'V' tells: the relations, and that they last. No claim. -/
import Derived.Test.YticdhmcbooabaaaDoor1
set_option linter.unusedVariables false
set_option linter.unusedSimpArgs false
namespace Go.Proofs.YticdhmcbooabaaaDoor.V
open Go

/-- A value of one cell. -/
def Plain : Value → Prop
  | .agg _ | .tuple _ => False
  | _ => True

theorem Plain.cells {v : Value} (h : Plain v) : v.cells = #[v] := by cases v <;> simp_all [Plain, Value.cells]

abbrev Cs := Nat → Nat → Prop
def Gm (G : Cs) (B : Nat) (m : Bool) : Cs := fun b o => G b o ∧ (m = true → B ≤ b)

theorem cell_of {w : World} {b : Nat} {c : Array Value} {T : TypeId} {fr : Nat × Nat} (h : w.heap[b]? = some (.cells c T fr)) (o : Nat) : w.cell? ⟨b, o, none⟩ = c[o]? := by
  simp [World.cell?, h]

theorem cell_lt {w : World} {b o : Nat} {v : Value} (h : w.cell? ⟨b, o, none⟩ = some v) : b < w.heap.size := by
  unfold World.cell? at h
  rcases Nat.lt_or_ge b w.heap.size with h1 | h1
  · exact h1
  · simp [Array.getElem?_eq_none h1] at h

/-- A value is what pure data tell; all its rows lie in cells of G. -/
inductive RepV (G : Cs) (w : World) : Value → PV → Prop
  | int (k n) : RepV G w (.int k n) (.int k n)
  | bool (b) : RepV G w (.bool b) (.bool b)
  | str (s : ByteArray) : RepV G w (.string s) (.str s.data.toList)
  | opq (v) (h : Plain v) : RepV G w v (.opq v)
  | agg (vs : Array Value) (cs : List PV) (hl : vs.size = cs.length) (hc : ∀ (i : Nat) v c, vs[i]? = some v → cs[i]? = some c → RepV G w v c)
      (hp : ∀ c ∈ cs, c.isAgg = false) : RepV G w (.agg vs) (.agg cs)
  | nil (A cap) : RepV G w (.slice A 0 cap) (.sl [])
  | sl (b off n cap z : Nat) (xs : List PV) (vs : Nat → Value) (hn : xs.length = n) (hz : 0 < z) (hcap : n ≤ cap)
      (he : ∀ (j : Nat) x, xs[j]? = some x → RepV G w (vs j) x)
      (hw : ∀ (j : Nat) x, xs[j]? = some x → x.cells.length = z)
      (hm : ∀ (j : Nat) x (i : Nat) v, xs[j]? = some x → (vs j).cells[i]? = some v → w.cell? ⟨b, off + j * z + i, none⟩ = some v ∧ G b (off + j * z + i)) :
      RepV G w (.slice (some ⟨b, off, none⟩) n cap) (.sl xs)

theorem RepV.mono {G G' : Cs} {w w' : World} (hG : ∀ b o, G b o → G' b o ∧ ∀ v, w.cell? ⟨b, o, none⟩ = some v → w'.cell? ⟨b, o, none⟩ = some v)
    {v : Value} {x : PV} (h : RepV G w v x) : RepV G' w' v x := by
  induction h with
  | int k n => exact .int k n
  | bool b => exact .bool b
  | str s => exact .str s
  | opq v h => exact .opq v h
  | agg vs cs hl hc hp ih => exact .agg vs cs hl ih hp
  | nil A cap => exact .nil A cap
  | sl b off n cap z xs vs hn hz hcap he hw hm ih =>
    exact .sl b off n cap z xs vs hn hz hcap ih hw fun j x i v hx hv =>
      have h := hm j x i v hx hv
      ⟨(hG _ _ h.2).2 _ h.1, (hG _ _ h.2).1⟩

theorem RepV.weaken {G G' : Cs} {w : World} (hG : ∀ b o, G b o → G' b o) {v : Value} {x : PV} (h : RepV G w v x) : RepV G' w v x :=
  h.mono fun b o hb => ⟨hG b o hb, fun _ hv => hv⟩

theorem Gm.le {G : Cs} {B : Nat} {m m' : Bool} (h : m' = true → m = true) (b o : Nat) (hb : Gm G B m b o) : Gm G B m' b o := ⟨hb.1, fun hm => hb.2 (h hm)⟩

theorem RepV.plain {G : Cs} {w : World} {v : Value} {x : PV} (h : RepV G w v x) (hx : x.isAgg = false) : Plain v := by
  cases h <;> simp_all [PV.isAgg, Plain]

theorem RepV.size {G : Cs} {w : World} {v : Value} {x : PV} (h : RepV G w v x) : v.cells.size = x.cells.length := by
  cases h with
  | agg vs cs hl hc hp => simpa [Value.cells, PV.cells] using hl
  | opq v h => rw [h.cells]; rfl
  | _ => rfl

theorem RepV.cell {G : Cs} {w : World} {v : Value} {x : PV} (h : RepV G w v x) (i : Nat) (u : Value) (c : PV) (hv : v.cells[i]? = some u) (hc : x.cells[i]? = some c) :
    RepV G w u c ∧ c.isAgg = false := by
  cases h with
  | agg vs cs hl hcs hp => exact ⟨hcs i u c hv hc, hp c (List.mem_of_getElem? hc)⟩
  | opq v h =>
    rw [h.cells] at hv
    cases i with
    | zero => simp [PV.cells] at hv hc; subst hv hc; exact ⟨.opq _ h, rfl⟩
    | succ i => simp [PV.cells] at hc
  | _ =>
    cases i with
    | zero => simp [PV.cells, Value.cells] at hv hc; subst hv hc; exact ⟨by constructor <;> assumption, rfl⟩
    | succ i => simp [PV.cells] at hc

/-- A value of whole numbers, bools and texts leans on no memory. -/
theorem scalar_go {cs : List PV} (h : PV.scalar.go cs = true) : ∀ c ∈ cs, (c.scalar = true ∧ c.isAgg = false) := by
  induction cs with
  | nil => simp
  | cons c r ih =>
    intro d hd
    have hc : PV.scalar.go r = true ∧ c.scalar = true ∧ c.isAgg = false := by
      cases c <;> simp_all [PV.scalar.go, PV.scalar, PV.isAgg]
    rcases List.mem_cons.1 hd with rfl | hd
    · exact hc.2
    · exact ih hc.1 d hd

theorem RepV.scalar {G G' : Cs} {w w' : World} {v : Value} {x : PV} (h : RepV G w v x) (hx : x.scalar = true) : RepV G' w' v x := by
  cases h with
  | int k n => exact .int k n
  | bool b => exact .bool b
  | str s => exact .str s
  | opq v h => exact .opq v h
  | nil A cap => simp [PV.scalar] at hx
  | sl => simp [PV.scalar] at hx
  | agg vs cs hl hc hp =>
    refine .agg vs cs hl (fun i v c hv hcc => ?_) hp
    have hm := scalar_go (by simpa [PV.scalar] using hx) c (List.mem_of_getElem? hcc)
    have h1 := hc i v c hv hcc
    cases h1 with
    | int k n => exact .int k n
    | bool b => exact .bool b
    | str s => exact .str s
    | opq v h => exact .opq v h
    | nil A cap => simp [PV.scalar] at hm
    | sl => simp [PV.scalar] at hm
    | agg => simp [PV.isAgg] at hm

abbrev Emb := Nat → Option (Nat × Nat × Nat)
abbrev Look := Nat → Option Ob

def isRow : Ob → Bool
  | .row .. => true
  | _ => false

/-- How a row's value leads to its block. -/
def Tie (p : Option (Nat × Nat × Nat)) (xs : List PV) (A : Option Addr) (cap : Nat) : Prop :=
  match p with
  | none => A = none ∧ cap = 0 ∧ xs = []
  | some (b, c, f) => A = some ⟨b, f, none⟩ ∧ cap = c

theorem Tie.len {p : Option (Nat × Nat × Nat)} {xs xs' : List PV} {A : Option Addr} {cap : Nat} (h : Tie p xs A cap) (hl : xs'.length = xs.length) : Tie p xs' A cap := by
  cases p with
  | none =>
    obtain ⟨h1, h2, rfl⟩ := h
    exact ⟨h1, h2, List.eq_nil_of_length_eq_zero (by simpa using hl)⟩
  | some p => exact h

inductive RelV (ρ : Emb) (G : Cs) (B n0 : Nat) (w : World) (S : Look) : Value → SV → Prop
  | pure (m x v) (h : RepV (Gm G B m) w v x) : RelV ρ G B n0 w S v (.pure m x)
  | row (k len A cap m z lim xs) (hk : S k = some (.row m z lim xs))
      (h : (len = xs.length ∧ Tie (ρ k) xs A cap) ∨ (len ≤ lim ∧ len < xs.length ∧ RepV (Gm G B (m && decide (n0 ≤ k))) w (.slice A len cap) (.sl (xs.take len)))) :
      RelV ρ G B n0 w S (.slice A len cap) (.row k len)
  | ptr (k off b c ob) (hk : S k = some ob) (hr : isRow ob = false) (h : ρ k = some (b, c)) : RelV ρ G B n0 w S (.pointer (some ⟨b, off, none⟩)) (.ptr k off)
  | eptr (k len i r v m z lim xs) (hk : S k = some (.row m z lim xs)) (hi : i < len) (hle : len ≤ xs.length)
      (h : xs.length = len → ∃ b c f, ρ k = some (b, c, f) ∧ v = .pointer (some ⟨b, f + i * z + r, none⟩)) :
      RelV ρ G B n0 w S v (.eptr k len i r)
  | tl (k len i v m z lim xs) (hk : S k = some (.row m z lim xs)) (hi : i < len) (hle : len ≤ xs.length)
      (h : xs.length = len → ∃ b c f, ρ k = some (b, c, f) ∧ v = .slice (some ⟨b, f + i * z, none⟩) (len - i) (c - i)) :
      RelV ρ G B n0 w S v (.tl k len i)
  | hd (k len q A cap m z lim xs) (hk : S k = some (.row m z lim xs)) (hi : q ≤ len) (hle : len ≤ xs.length)
      (h : xs.length = len → ∃ b f, ρ k = some (b, cap, f) ∧ A = some ⟨b, f, none⟩) :
      RelV ρ G B n0 w S (.slice A q cap) (.hd k len q)
  | rptr (m cs b off) (hp : ∀ c ∈ cs, c.isAgg = false)
      (hc : ∀ (i : Nat) c, cs[i]? = some c → ∃ v, w.cell? ⟨b, off + i, none⟩ = some v ∧ G b (off + i) ∧ RepV (Gm G B m) w v c) :
      RelV ρ G B n0 w S (.pointer (some ⟨b, off, none⟩)) (.rptr m cs)
  | map (k b c ob) (hk : S k = some ob) (hr : isRow ob = false) (h : ρ k = some (b, c)) : RelV ρ G B n0 w S (.map (some b)) (.map k)
  | iter (k b c ob) (hk : S k = some ob) (hr : isRow ob = false) (h : ρ k = some (b, c)) : RelV ρ G B n0 w S (.pointer (some ⟨b, 0, none⟩)) (.iter k)
  | view (k off z n b c cap ob) (hk : S k = some ob) (hr : isRow ob = false) (h : ρ k = some (b, c)) (hcap : n ≤ cap) : RelV ρ G B n0 w S (.slice (some ⟨b, off, none⟩) n cap) (.view k off z n)
  | clo (f caps vs) (hl : vs.size = caps.length) (hc : ∀ (i : Nat) v c, vs[i]? = some v → caps[i]? = some c → RelV ρ G B n0 w S v c) :
      RelV ρ G B n0 w S (.func (.func f) #[] vs) (.clo f caps)
  | tuple (cs vs) (hl : vs.size = cs.length) (hc : ∀ (i : Nat) v c, vs[i]? = some v → cs[i]? = some c → RelV ρ G B n0 w S v c) :
      RelV ρ G B n0 w S (.tuple vs) (.tuple cs)
  | agg (cs vs) (hl : vs.size = cs.length) (hc : ∀ (i : Nat) v c, vs[i]? = some v → cs[i]? = some c → RelV ρ G B n0 w S v c) (hp : ∀ v ∈ vs, Plain v) :
      RelV ρ G B n0 w S (.agg vs) (.agg cs)
  | dead (v) : RelV ρ G B n0 w S v .dead

/-- No cell of a block is frozen. -/
def Free (fr : Nat × Nat) (n : Nat) : Prop := fr.1 = fr.2 ∨ n ≤ fr.1
theorem Free.not {fr : Nat × Nat} {n o : Nat} (h : Free fr n) (ho : o < n) : ¬(fr.1 ≤ o ∧ o < fr.2) := by
  unfold Free at h
  omega

def RelO (ρ : Emb) (G : Cs) (B n0 : Nat) (w : World) (S : Look) (k : Nat) : Ob → Prop
  | .box cs => ∃ b c cells T fr, ρ k = some (b, c) ∧ w.heap[b]? = some (.cells cells T fr) ∧ Free fr cells.size ∧ cells.size = cs.length ∧
      ∀ (i : Nat) v s, cells[i]? = some v → cs[i]? = some s → RelV ρ G B n0 w S v s ∧ Plain v
  | .fbox m cs => ∃ b c cells T fr, ρ k = some (b, c) ∧ w.heap[b]? = some (.cells cells T fr) ∧ cells.size = cs.length ∧ (∀ o, o < cells.size → G b o) ∧
      ∀ (i : Nat) v s, cells[i]? = some v → cs[i]? = some s → RepV (Gm G B m) w v s ∧ s.isAgg = false
  | .row m z lim xs => lim ≤ xs.length ∧ (ρ k = none → xs = [] ∨ (lim < xs.length ∧ ∀ (j : Nat) x, j < lim → xs[j]? = some x → x.cells.length = z)) ∧ ∀ b cap f, ρ k = some (b, cap, f) → 0 < z ∧ xs.length ≤ cap ∧
      ∃ cells T fr, ∃ vs : Nat → Value, w.heap[b]? = some (.cells cells T fr) ∧ Free fr cells.size ∧ cells.size = f + cap * z ∧ (∀ o, f ≤ o → o < f + lim * z → G b o) ∧
        ∀ (j : Nat) x, xs[j]? = some x → x.cells.length = z ∧ RepV (Gm G B m) w (vs j) x ∧ ∀ (i : Nat) v, (vs j).cells[i]? = some v → cells[f + j * z + i]? = some v
  | .map m es => ∃ b c en clock, ρ k = some (b, c) ∧ w.heap[b]? = some (.map en clock) ∧ en.size = es.length ∧
      ∀ (i : Nat) e p, en[i]? = some e → es[i]? = some p → RepV (Gm G B m) w e.key p.1 ∧ p.1.scalar = true ∧ RepV (Gm G B m) w e.val p.2
  | .maps es => ∃ b c en clock, ρ k = some (b, c) ∧ w.heap[b]? = some (.map en clock) ∧ en.size = es.length ∧
      ∀ (i : Nat) e p, en[i]? = some e → es[i]? = some p → RepV G w e.key p.1 ∧ p.1.scalar = true ∧ RelV ρ G B n0 w S e.val p.2
  | .iter s pos => ∃ b c, ρ k = some (b, c) ∧ w.heap[b]? = some (.stringIter ⟨s.toArray⟩ pos)

/-- Cells of an object that nobody writes any more. -/
def prot (f : Nat) : Ob → Nat → Prop
  | .row _ z lim _, o => o < f + lim * z
  | .fbox .., _ => True
  | _, _ => False

structure SInv (ρ : Emb) (G : Cs) (B n0 : Nat) (w : World) (S : Look) : Prop where
  inj : ∀ k k' b c c', ρ k = some (b, c) → ρ k' = some (b, c') → k = k'
  lt : ∀ k b c, ρ k = some (b, c) → b < w.heap.size
  gdef : ∀ b o, G b o → b < w.heap.size
  gobj : ∀ k b c ob o, ρ k = some (b, c) → S k = some ob → G b o → prot c.2 ob o
  obj : ∀ k ob, S k = some ob → RelO ρ G B n0 w S k ob
  dom : ∀ k, S k = none → ρ k = none
  newk : ∀ k b c, n0 ≤ k → ρ k = some (b, c) → B ≤ b
  bsz : B ≤ w.heap.size

/-- What an object may become. -/
def Ev (B n0 : Nat) (G' : Cs) (w' : World) (k : Nat) (p p' : Option (Nat × Nat × Nat)) : Ob → Ob → Prop
  | .row m z lim xs, .row m' z' lim' xs' => (m' = true → m = true) ∧ (xs ≠ [] → z' = z) ∧ lim ≤ lim' ∧ xs'.take lim = xs.take lim ∧
      ((xs'.length = xs.length ∧ p' = p) ∨
       (xs.length < xs'.length ∧ xs.length ≤ lim' ∧
         ∀ A cap, Tie p xs A cap → RepV (Gm G' B (m' && decide (n0 ≤ k))) w' (.slice A xs.length cap) (.sl (xs'.take xs.length))))
  | .row .., _ => False
  | _, ob' => isRow ob' = false ∧ p' = p

structure Ext (K : Nat → Prop) (B n0 : Nat) (ρ : Emb) (G : Cs) (w : World) (S : Look) (ρ' : Emb) (G' : Cs) (w' : World) (S' : Look) : Prop where
  g : ∀ b o, G b o → G' b o ∧ ∀ v, w.cell? ⟨b, o, none⟩ = some v → w'.cell? ⟨b, o, none⟩ = some v
  key : ∀ k ob, K k → S k = some ob → ∃ ob', S' k = some ob' ∧ Ev B n0 G' w' k (ρ k) (ρ' k) ob ob'
  frame : ∀ b, b < w.heap.size → (∀ k c, ρ k ≠ some (b, c)) → w'.heap[b]? = w.heap[b]?
  own : ∀ k b c, ρ' k = some (b, c) → (∃ k0 c0, ρ k0 = some (b, c0) ∧ (K k → S k ≠ none → k0 = k)) ∨ w.heap.size ≤ b
  gnew : ∀ b o, G' b o → G b o ∨ w.heap.size ≤ b ∨ ∃ k c, ρ k = some (b, c)
  size : w.heap.size ≤ w'.heap.size
  os : w'.os = w.os
  tape : w'.tape = w.tape
  out : w'.output = w.output

theorem Ev.refl (B n0 : Nat) (G : Cs) (w : World) (k : Nat) (p : Option (Nat × Nat × Nat)) (ob : Ob) : Ev B n0 G w k p p ob ob := by
  cases ob with
  | row m z lim xs => exact ⟨id, fun _ => rfl, Nat.le_refl _, rfl, .inl ⟨rfl, rfl⟩⟩
  | _ => exact ⟨rfl, rfl⟩

theorem Ext.refl (K : Nat → Prop) (B n0 : Nat) (ρ : Emb) (G : Cs) (w : World) (S : Look) : Ext K B n0 ρ G w S ρ G w S :=
  ⟨fun _ _ h => ⟨h, fun _ hv => hv⟩, fun k ob _ hk => ⟨ob, hk, Ev.refl ..⟩, fun _ _ _ => rfl, fun k b c h => .inl ⟨k, c, h, fun _ _ => rfl⟩, fun _ _ h => .inl h, Nat.le_refl _, rfl, rfl, rfl⟩

theorem RelV.ext {B n0 : Nat} {ρ ρ' : Emb} {G G' : Cs} {w w' : World} {S S' : Look} (hx : Ext (fun _ => True) B n0 ρ G w S ρ' G' w' S')
    {v : Value} {s : SV} (h : RelV ρ G B n0 w S v s) : RelV ρ' G' B n0 w' S' v s := by
  have hg : ∀ (m m' : Bool), (m' = true → m = true) → ∀ b o, Gm G B m b o → Gm G' B m' b o ∧ ∀ v, w.cell? ⟨b, o, none⟩ = some v → w'.cell? ⟨b, o, none⟩ = some v :=
    fun m m' hm b o hb => ⟨⟨(hx.g b o hb.1).1, fun h => hb.2 (hm h)⟩, (hx.g b o hb.1).2⟩
  have hnr : ∀ k ob, S k = some ob → isRow ob = false → ∃ ob', S' k = some ob' ∧ isRow ob' = false ∧ ρ' k = ρ k := by
    intro k ob hk hr
    obtain ⟨ob', h1, h2⟩ := hx.key k ob trivial hk
    cases ob with
    | row => simp [isRow] at hr
    | _ => exact ⟨ob', h1, h2⟩
  induction h with
  | pure m x v h => exact .pure m x v (h.mono (hg m m id))
  | row k len A cap m z lim xs hk h =>
    obtain ⟨ob', hk', hev⟩ := hx.key k _ trivial hk
    cases ob' with
    | row m' z' lim' xs' =>
      obtain ⟨hm, _, hle, ht, hev⟩ := hev
      have hmm : (m' && decide (n0 ≤ k)) = true → (m && decide (n0 ≤ k)) = true := by
        simp only [Bool.and_eq_true]
        exact fun h => ⟨hm h.1, h.2⟩
      have htake : len ≤ lim → xs'.take len = xs.take len := fun h1 => by
        have h4 := congrArg (List.take len) ht
        simpa [List.take_take, Nat.min_eq_left h1] using h4
      refine .row k len A cap m' z' lim' xs' hk' ?_
      rcases h with ⟨h1, h2⟩ | ⟨h1, h2, h3⟩
      · rcases hev with ⟨hl, hp⟩ | ⟨hl, hle2, hrep⟩
        · exact .inl ⟨h1.trans hl.symm, hp ▸ h2.len hl⟩
        · subst h1
          exact .inr ⟨hle2, hl, hrep A cap h2⟩
      · refine .inr ⟨Nat.le_trans h1 hle, ?_, by rw [htake h1]; exact h3.mono (hg _ _ hmm)⟩
        rcases hev with ⟨hl, _⟩ | ⟨hl, _⟩ <;> omega
    | _ => exact hev.elim
  | ptr k off b c ob hk hr h => obtain ⟨ob', h1, h2, h3⟩ := hnr k ob hk hr; exact .ptr k off b c ob' h1 h2 (h3 ▸ h)
  | eptr k len i r v m z lim xs hk hi hle h =>
    obtain ⟨ob', hk', hev⟩ := hx.key k _ trivial hk
    cases ob' with
    | row m' z' lim' xs' =>
      obtain ⟨hm, hz, _, _, hev⟩ := hev
      have hne : xs ≠ [] := by rintro rfl; simp at hle; omega
      rcases hev with ⟨hl, hp⟩ | ⟨hl, _, _⟩
      · refine .eptr k len i r v m' z' lim' xs' hk' hi (by omega) fun he => ?_
        obtain ⟨b, c, f, h1, h2⟩ := h (by omega)
        exact ⟨b, c, f, hp ▸ h1, by rw [hz hne]; exact h2⟩
      · exact .eptr k len i r v m' z' lim' xs' hk' hi (by omega) fun he => by omega
    | _ => exact hev.elim
  | tl k len i v m z lim xs hk hi hle h =>
    obtain ⟨ob', hk', hev⟩ := hx.key k _ trivial hk
    cases ob' with
    | row m' z' lim' xs' =>
      obtain ⟨hm, hz, _, _, hev⟩ := hev
      have hne : xs ≠ [] := by rintro rfl; simp at hle; omega
      rcases hev with ⟨hl, hp⟩ | ⟨hl, _, _⟩
      · refine .tl k len i v m' z' lim' xs' hk' hi (by omega) fun he => ?_
        obtain ⟨b, c, f, h1, h2⟩ := h (by omega)
        exact ⟨b, c, f, hp ▸ h1, by rw [hz hne]; exact h2⟩
      · exact .tl k len i v m' z' lim' xs' hk' hi (by omega) fun he => by omega
    | _ => exact hev.elim
  | hd k len q A cap m z lim xs hk hi hle h =>
    obtain ⟨ob', hk', hev⟩ := hx.key k _ trivial hk
    cases ob' with
    | row m' z' lim' xs' =>
      obtain ⟨hm, hz, _, _, hev⟩ := hev
      rcases hev with ⟨hl, hp⟩ | ⟨hl, _, _⟩
      · refine .hd k len q A cap m' z' lim' xs' hk' hi (by omega) fun he => ?_
        obtain ⟨b, f, h1, h2⟩ := h (by omega)
        exact ⟨b, f, hp ▸ h1, h2⟩
      · exact .hd k len q A cap m' z' lim' xs' hk' hi (by omega) fun he => by omega
    | _ => exact hev.elim
  | rptr m cs b off hp hc =>
    refine .rptr m cs b off hp fun i c hi => ?_
    obtain ⟨v, h1, h2, h3⟩ := hc i c hi
    exact ⟨v, (hx.g _ _ h2).2 _ h1, (hx.g _ _ h2).1, h3.mono (hg m m id)⟩
  | map k b c ob hk hr h => obtain ⟨ob', h1, h2, h3⟩ := hnr k ob hk hr; exact .map k b c ob' h1 h2 (h3 ▸ h)
  | iter k b c ob hk hr h => obtain ⟨ob', h1, h2, h3⟩ := hnr k ob hk hr; exact .iter k b c ob' h1 h2 (h3 ▸ h)
  | view k off z n b c cap ob hk hr h hcap => obtain ⟨ob', h1, h2, h3⟩ := hnr k ob hk hr; exact .view k off z n b c cap ob' h1 h2 (h3 ▸ h) hcap
  | clo f caps vs hl hc ih => exact .clo f caps vs hl ih
  | tuple cs vs hl hc ih => exact .tuple cs vs hl ih
  | agg cs vs hl hc hp ih => exact .agg cs vs hl ih hp
  | dead v => exact .dead v

theorem Ext.gm {K : Nat → Prop} {B n0 : Nat} {ρ ρ' : Emb} {G G' : Cs} {w w' : World} {S S' : Look} (hx : Ext K B n0 ρ G w S ρ' G' w' S') (m : Bool) :
    ∀ b o, Gm G B m b o → Gm G' B m b o ∧ ∀ v, w.cell? ⟨b, o, none⟩ = some v → w'.cell? ⟨b, o, none⟩ = some v :=
  fun b o hb => ⟨⟨(hx.g b o hb.1).1, hb.2⟩, (hx.g b o hb.1).2⟩

theorem RelO.ext {B n0 : Nat} {ρ ρ' : Emb} {G G' : Cs} {w w' : World} {S S' : Look} (hx : Ext (fun _ => True) B n0 ρ G w S ρ' G' w' S') {k : Nat} {ob : Ob}
    (h : RelO ρ G B n0 w S k ob) (hρ : ρ' k = ρ k) (hh : ∀ b c, ρ k = some (b, c) → w'.heap[b]? = w.heap[b]?) : RelO ρ' G' B n0 w' S' k ob := by
  cases ob with
  | box cs =>
    obtain ⟨b, c, cells, T, fr, h1, h2, h3, h4, h5⟩ := h
    exact ⟨b, c, cells, T, fr, hρ ▸ h1, (hh b c h1).trans h2, h3, h4, fun i v s hv hs => ⟨(h5 i v s hv hs).1.ext hx, (h5 i v s hv hs).2⟩⟩
  | fbox m cs =>
    obtain ⟨b, c, cells, T, fr, h1, h2, h3, h4, h5⟩ := h
    exact ⟨b, c, cells, T, fr, hρ ▸ h1, (hh b c h1).trans h2, h3, fun o ho => (hx.g b o (h4 o ho)).1, fun i v s hv hs => ⟨(h5 i v s hv hs).1.mono (hx.gm m), (h5 i v s hv hs).2⟩⟩
  | row m z lim xs =>
    obtain ⟨h1, h2, h3⟩ := h
    refine ⟨h1, fun hn => h2 (hρ ▸ hn), fun b cap f hb => ?_⟩
    have hb' : ρ k = some (b, cap, f) := hρ ▸ hb
    obtain ⟨h4, h5, cells, T, fr, vs, h6, h7, h8, h9, h10⟩ := h3 b cap f hb'
    exact ⟨h4, h5, cells, T, fr, vs, (hh b _ hb').trans h6, h7, h8, fun o hf ho => (hx.g b o (h9 o hf ho)).1, fun j x hj =>
      ⟨(h10 j x hj).1, (h10 j x hj).2.1.mono (hx.gm m), (h10 j x hj).2.2⟩⟩
  | map m es =>
    obtain ⟨b, c, en, clock, h1, h2, h3, h4⟩ := h
    exact ⟨b, c, en, clock, hρ ▸ h1, (hh b c h1).trans h2, h3, fun i e p he hp =>
      ⟨(h4 i e p he hp).1.mono (hx.gm m), (h4 i e p he hp).2.1, (h4 i e p he hp).2.2.mono (hx.gm m)⟩⟩
  | maps es =>
    obtain ⟨b, c, en, clock, h1, h2, h3, h4⟩ := h
    exact ⟨b, c, en, clock, hρ ▸ h1, (hh b c h1).trans h2, h3, fun i e p he hp =>
      ⟨(h4 i e p he hp).1.mono hx.g, (h4 i e p he hp).2.1, (h4 i e p he hp).2.2.ext hx⟩⟩
  | iter s pos =>
    obtain ⟨b, c, h1, h2⟩ := h
    exact ⟨b, c, hρ ▸ h1, (hh b c h1).trans h2⟩

theorem RelO.lt {B n0 : Nat} {ρ : Emb} {G : Cs} {w : World} {S : Look} {k : Nat} {ob : Ob} (h : RelO ρ G B n0 w S k ob) (hr : isRow ob = false) : ∃ b c, ρ k = some (b, c) := by
  cases ob with
  | row => simp [isRow] at hr
  | box cs => obtain ⟨b, c, cells, T, fr, h1, _⟩ := h; exact ⟨b, c, h1⟩
  | fbox m cs => obtain ⟨b, c, cells, T, fr, h1, _⟩ := h; exact ⟨b, c, h1⟩
  | map m es => obtain ⟨b, c, en, clock, h1, _⟩ := h; exact ⟨b, c, h1⟩
  | maps es => obtain ⟨b, c, en, clock, h1, _⟩ := h; exact ⟨b, c, h1⟩
  | iter s pos => obtain ⟨b, c, h1, h2⟩ := h; exact ⟨b, c, h1⟩

/-- The world has grown by a block, or by draws; everything is as it was. -/
structure Grew (w w' : World) : Prop where
  size : w.heap.size ≤ w'.heap.size
  old : ∀ b, b < w.heap.size → w'.heap[b]? = w.heap[b]?
  os : w'.os = w.os
  tape : w'.tape = w.tape
  out : w'.output = w.output

theorem Grew.refl (w : World) : Grew w w := ⟨Nat.le_refl _, fun _ _ => rfl, rfl, rfl, rfl⟩
theorem Grew.push {w w' : World} {o : Obj} (h : w'.heap = w.heap.push o) (h1 : w'.os = w.os) (h2 : w'.tape = w.tape) (h3 : w'.output = w.output) : Grew w w' :=
  ⟨by rw [h]; simp, fun b hb => by rw [h]; simp [Array.getElem?_push, Nat.ne_of_lt hb], h1, h2, h3⟩

theorem Grew.cell {w w' : World} (h : Grew w w') (b o : Nat) (v : Value) (hv : w.cell? ⟨b, o, none⟩ = some v) : w'.cell? ⟨b, o, none⟩ = some v := by
  have hb := cell_lt hv
  unfold World.cell? at *
  rw [h.old b hb]
  exact hv

/-- The world has grown; a key has come (or none): all that was there lasts. -/
theorem ext_grew {B n0 : Nat} {ρ ρ' : Emb} {G : Cs} {w w' : World} {S S' : Look} (h : SInv ρ G B n0 w S) (hw : Grew w w')
    (hS : ∀ k ob, S k = some ob → S' k = some ob) (hρ : ∀ k, S k ≠ none → ρ' k = ρ k) (hn : ∀ k b c, S k = none → ρ' k = some (b, c) → w.heap.size ≤ b) :
    Ext (fun _ => True) B n0 ρ G w S ρ' G w' S' where
  g b o hb := ⟨hb, fun v hv => hw.cell b o v hv⟩
  key k ob _ hk := ⟨ob, hS k ob hk, by rw [hρ k (by simp [hk])]; exact Ev.refl ..⟩
  frame b hb _ := hw.old b hb
  own k b c hk := by
    cases hs : S k with
    | none => exact .inr (hn k b c hs hk)
    | some ob => exact .inl ⟨k, c, by rw [← hρ k (by simp [hs])]; exact hk, fun _ _ => rfl⟩
  gnew b o hb := .inl hb
  size := hw.size
  os := hw.os
  tape := hw.tape
  out := hw.out

theorem inv_grew {B n0 : Nat} {ρ : Emb} {G : Cs} {w w' : World} {S : Look} (h : SInv ρ G B n0 w S) (hw : Grew w w') : SInv ρ G B n0 w' S := by
  have hx : Ext (fun _ => True) B n0 ρ G w S ρ G w' S := ext_grew h hw (fun _ _ h => h) (fun _ _ => rfl) (fun k b c hs hk => by rw [h.dom k hs] at hk; cases hk)
  exact ⟨h.inj, fun k b c hk => Nat.lt_of_lt_of_le (h.lt k b c hk) hw.size, fun b o hb => Nat.lt_of_lt_of_le (h.gdef b o hb) hw.size, h.gobj,
    fun k ob hk => (h.obj k ob hk).ext hx rfl (fun b c hb => hw.old b (h.lt k b c hb)), h.dom, h.newk, Nat.le_trans h.bsz hw.size⟩

/-- A new object, in a block of its own (or, a row of nothing, in none). -/
theorem inv_new {B n0 k : Nat} {p : Option (Nat × Nat × Nat)} {ob : Ob} {ρ ρ' : Emb} {G : Cs} {w w' : World} {S S' : Look} (h : SInv ρ G B n0 w S) (hw : Grew w w') (hk : S k = none)
    (hS : ∀ j, S' j = if k = j then some ob else S j) (hρ : ∀ j, ρ' j = if k = j then p else ρ j)
    (hp : ∀ b c, p = some (b, c) → w.heap.size ≤ b ∧ b < w'.heap.size) (hO : Ext (fun _ => True) B n0 ρ G w S ρ' G w' S' → RelO ρ' G B n0 w' S' k ob) :
    SInv ρ' G B n0 w' S' ∧ Ext (fun _ => True) B n0 ρ G w S ρ' G w' S' := by
  have hx : Ext (fun _ => True) B n0 ρ G w S ρ' G w' S' := ext_grew h hw
    (fun j ob' hj => by rw [hS j, if_neg (by rintro rfl; rw [hk] at hj; cases hj)]; exact hj)
    (fun j hj => by rw [hρ j, if_neg (by rintro rfl; exact hj hk)])
    (fun j b c hs hj => by
      rw [hρ j] at hj
      split at hj
      · exact (hp b c hj).1
      · rw [h.dom j hs] at hj; cases hj)
  refine ⟨⟨?_, ?_, fun b o hb => Nat.lt_of_lt_of_le (h.gdef b o hb) hw.size, ?_, ?_, ?_, ?_, Nat.le_trans h.bsz hw.size⟩, hx⟩
  · intro i j b c c' hi hj
    rw [hρ] at hi hj
    split at hi <;> split at hj
    · subst_vars; rfl
    · have := (hp b c hi).1; have := h.lt j b c' hj; omega
    · have := (hp b c' hj).1; have := h.lt i b c hi; omega
    · exact h.inj i j b c c' hi hj
  · intro j b c hj
    rw [hρ] at hj
    split at hj
    · exact (hp b c hj).2
    · exact Nat.lt_of_lt_of_le (h.lt j b c hj) hw.size
  · intro j b c ob' o hj hs hg
    rw [hρ] at hj
    rw [hS] at hs
    split at hj
    · have := (hp b c hj).1; have := h.gdef b o hg; omega
    · rename_i hne
      rw [if_neg hne] at hs
      exact h.gobj j b c ob' o hj hs hg
  · intro j ob' hj
    rw [hS] at hj
    by_cases e : k = j
    · subst e
      simp at hj
      subst hj
      exact hO hx
    · rw [if_neg e] at hj
      exact (h.obj j ob' hj).ext hx (by rw [hρ, if_neg e]) (fun b c hb => hw.old b (h.lt j b c hb))
  · intro j hj
    rw [hS] at hj
    rw [hρ]
    split at hj
    · cases hj
    · rename_i hne
      rw [if_neg hne]
      exact h.dom j hj
  · intro j b c hn hj
    rw [hρ] at hj
    split at hj
    · exact Nat.le_trans h.bsz (hp b c hj).1
    · exact h.newk j b c hn hj

/-- An object is another one now, in the same block. -/
theorem inv_set {B n0 k b : Nat} {c : Nat × Nat} {ob ob' : Ob} {ρ : Emb} {G G' : Cs} {w w' : World} {S S' : Look} (h : SInv ρ G B n0 w S) (hk : S k = some ob) (hb : ρ k = some (b, c))
    (hS : ∀ j, S' j = if k = j then some ob' else S j)
    (hsz : w'.heap.size = w.heap.size) (hheap : ∀ b', b' ≠ b → w'.heap[b']? = w.heap[b']?) (hos : w'.os = w.os) (htp : w'.tape = w.tape) (hout : w'.output = w.output)
    (hG : ∀ b' o, G' b' o → G b' o ∨ (b' = b ∧ prot c.2 ob' o)) (hG' : ∀ b' o, G b' o → G' b' o) (hp : ∀ o, G b o → prot c.2 ob' o)
    (hcell : ∀ o v, G b o → w.cell? ⟨b, o, none⟩ = some v → w'.cell? ⟨b, o, none⟩ = some v)
    (hev : Ev B n0 G' w' k (ρ k) (ρ k) ob ob')
    (hO : Ext (fun _ => True) B n0 ρ G w S ρ G' w' S' → RelO ρ G' B n0 w' S' k ob') :
    SInv ρ G' B n0 w' S' ∧ Ext (fun _ => True) B n0 ρ G w S ρ G' w' S' := by
  have hx : Ext (fun _ => True) B n0 ρ G w S ρ G' w' S' := by
    refine ⟨fun b' o hg => ⟨hG' b' o hg, fun v hv => ?_⟩, fun j ob1 _ hj => ?_, fun b' hb' hno => hheap b' (fun e => hno k c (e ▸ hb)), fun j b' c' hj => .inl ⟨j, c', hj, fun _ _ => rfl⟩, fun b' o hg => ?_,
      Nat.le_of_eq hsz.symm, hos, htp, hout⟩
    · by_cases e : b' = b
      · subst e; exact hcell o v hg hv
      · unfold World.cell? at *
        rw [hheap b' e]; exact hv
    · by_cases e : k = j
      · subst e
        rw [hk] at hj
        cases hj
        exact ⟨ob', by rw [hS, if_pos rfl], hev⟩
      · exact ⟨ob1, by rw [hS, if_neg e]; exact hj, Ev.refl ..⟩
    · rcases hG b' o hg with hg | ⟨e, hg⟩
      · exact .inl hg
      · exact .inr (.inr ⟨k, c, e ▸ hb⟩)
  refine ⟨⟨h.inj, fun j b' c' hj => hsz ▸ h.lt j b' c' hj, fun b' o hg => ?_, ?_, ?_, ?_, h.newk, hsz ▸ h.bsz⟩, hx⟩
  · rw [hsz]
    rcases hG b' o hg with hg | ⟨e, _⟩
    · exact h.gdef b' o hg
    · rw [e]; exact h.lt k b c hb
  · intro j b' c' ob1 o hj hs hg
    rw [hS] at hs
    by_cases e : k = j
    · subst e
      rw [if_pos rfl] at hs
      cases hs
      rw [hb] at hj
      cases hj
      rcases hG b o hg with hg | ⟨_, hg⟩
      · exact hp o hg
      · exact hg
    · rw [if_neg e] at hs
      have hne : b' ≠ b := fun e' => e (h.inj k j b c c' hb (e' ▸ hj))
      rcases hG b' o hg with hg | ⟨e', _⟩
      · exact h.gobj j b' c' ob1 o hj hs hg
      · exact absurd e' hne
  · intro j ob1 hj
    rw [hS] at hj
    by_cases e : k = j
    · subst e
      rw [if_pos rfl] at hj
      cases hj
      exact hO hx
    · rw [if_neg e] at hj
      exact (h.obj j ob1 hj).ext hx rfl (fun b' c' hb' => hheap b' (fun e' => e (h.inj k j b c c' hb (e' ▸ hb'))))
  · intro j hj
    rw [hS] at hj
    split at hj
    · cases hj
    · exact h.dom j hj

/-- A row without a block is told otherwise; a row has come to another block. -/
theorem inv_move {B n0 k : Nat} {p : Option (Nat × Nat × Nat)} {ob ob' : Ob} {ρ ρ' : Emb} {G G' : Cs} {w w' : World} {S S' : Look} (h : SInv ρ G B n0 w S) (hw : Grew w w') (hk : S k = some ob)
    (hS : ∀ j, S' j = if k = j then some ob' else S j) (hρ : ∀ j, ρ' j = if k = j then p else ρ j)
    (hp : ∀ b c, p = some (b, c) → w.heap.size ≤ b ∧ b < w'.heap.size)
    (hG : ∀ b o, G' b o ↔ G b o ∨ ((∃ c, ρ k = some (b, c) ∧ prot c.2 ob' o) ∨ (∃ c, p = some (b, c) ∧ prot c.2 ob' o)) ∧ b < w'.heap.size)
    (hev : Ev B n0 G' w' k (ρ k) p ob ob')
    (hO : Ext (fun _ => True) B n0 ρ G w S ρ' G' w' S' → RelO ρ' G' B n0 w' S' k ob') :
    SInv ρ' G' B n0 w' S' ∧ Ext (fun _ => True) B n0 ρ G w S ρ' G' w' S' := by
  have hx : Ext (fun _ => True) B n0 ρ G w S ρ' G' w' S' := by
    refine ⟨fun b o hg => ⟨(hG b o).2 (.inl hg), fun v hv => hw.cell b o v hv⟩, fun j ob1 _ hj => ?_, fun b hb _ => hw.old b hb, fun j b c hj => ?_, fun b o hg => ?_, hw.size, hw.os, hw.tape, hw.out⟩
    · by_cases e : k = j
      · subst e
        rw [hk] at hj
        cases hj
        exact ⟨ob', by rw [hS, if_pos rfl], by rw [hρ, if_pos rfl]; exact hev⟩
      · exact ⟨ob1, by rw [hS, if_neg e]; exact hj, by rw [hρ, if_neg e]; exact Ev.refl ..⟩
    · rw [hρ] at hj
      split at hj
      · exact .inr (hp b c hj).1
      · exact .inl ⟨j, c, hj, fun _ _ => rfl⟩
    · rcases (hG b o).1 hg with hg | ⟨⟨c, hc, _⟩ | ⟨c, hc, _⟩, _⟩
      · exact .inl hg
      · exact .inr (.inr ⟨k, c, hc⟩)
      · exact .inr (.inl (hp b c hc).1)
  refine ⟨⟨?_, ?_, ?_, ?_, ?_, ?_, ?_, Nat.le_trans h.bsz hw.size⟩, hx⟩
  · intro i j b c c' hi hj
    rw [hρ] at hi hj
    split at hi <;> split at hj
    · subst_vars; rfl
    · have := (hp b c hi).1; have := h.lt j b c' hj; omega
    · have := (hp b c' hj).1; have := h.lt i b c hi; omega
    · exact h.inj i j b c c' hi hj
  · intro j b c hj
    rw [hρ] at hj
    split at hj
    · exact (hp b c hj).2
    · exact Nat.lt_of_lt_of_le (h.lt j b c hj) hw.size
  · intro b o hg
    rcases (hG b o).1 hg with hg | ⟨_, hg⟩
    · exact Nat.lt_of_lt_of_le (h.gdef b o hg) hw.size
    · exact hg
  · intro j b c ob1 o hj hs hg
    rw [hρ] at hj
    rw [hS] at hs
    by_cases e : k = j
    · rw [if_pos e] at hj hs
      cases hs
      rcases (hG b o).1 hg with hg | ⟨⟨c', hc, _⟩ | ⟨c', hc, hg⟩, _⟩
      · have := (hp b c hj).1; have := h.gdef b o hg; omega
      · have := (hp b c hj).1; have := h.lt k b c' (e ▸ hc); omega
      · rw [hj] at hc
        cases hc
        exact hg
    · rw [if_neg e] at hj hs
      rcases (hG b o).1 hg with hg | ⟨⟨c', hc, _⟩ | ⟨c', hc, _⟩, _⟩
      · exact h.gobj j b c ob1 o hj hs hg
      · exact absurd (h.inj k j b c' c hc hj) e
      · have := (hp b c' hc).1; have := h.lt j b c hj; omega
  · intro j ob1 hj
    rw [hS] at hj
    by_cases e : k = j
    · subst e
      rw [if_pos rfl] at hj
      cases hj
      exact hO hx
    · rw [if_neg e] at hj
      exact (h.obj j ob1 hj).ext hx (by rw [hρ, if_neg e]) (fun b c hb => hw.old b (h.lt j b c hb))
  · intro j hj
    rw [hS] at hj
    rw [hρ]
    split at hj
    · cases hj
    · rename_i hne
      rw [if_neg hne]
      exact h.dom j hj
  · intro j b c hn hj
    rw [hρ] at hj
    split at hj
    · exact Nat.le_trans h.bsz (hp b c hj).1
    · exact h.newk j b c hn hj

end Go.Proofs.YticdhmcbooabaaaDoor.V
