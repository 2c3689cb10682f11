/- YticdhmcbooabaaaDoorL8: parts of the proof of SuiteProbes. No claim. -/
import Derived.Test.YticdhmcbooabaaaDoorE
import Derived.Test.YticdhmcbooabaaaDoorWA
import Derived.Test.YticdhmcbooabaaaDoorQS
import Derived.Test.YticdhmcbooabaaaDoorWB
import Derived.Test.YticdhmcbooabaaaDoorUA
import Derived.Test.YticdhmcbooabaaaDoorDZ
import Derived.Test.YticdhmcbooabaaaDoorY
import Derived.Test.YticdhmcbooabaaaDoorTie
import Derived.Test.YticdhmcbooabaaaDoorCards
import Derived.WalkKit
import Derived.ProofKit
import Derived.Handy
import Derived.Lay
import Derived.SevenTiedAt
import Derived.OpenShut
import Derived.ChangeOld
import Derived.Below
import Derived.SizedLaws
set_option linter.unusedVariables false
set_option linter.unusedSimpArgs false
set_option maxRecDepth 1000000
namespace Go.Proofs.YticdhmcbooabaaaDoor
open Go Go.Proofs.YticdhmcbooabaaaDoor.V

theorem zero57 : zeroE Tryd.prog 57 = some (.sl []) := by kernel_rfl
theorem zeros57 : zerosOf Tryd.prog 57 = some [.sl []] := by kernel_rfl
theorem cells57 : Tryd.prog.cellsOf 57 = 1 := by kernel_rfl
theorem bytes57 : Tryd.prog.bytesOf 57 = 24 := by kernel_rfl
theorem agg57 : isAggT Tryd.prog 57 = false := by kernel_rfl
theorem ok57 : okT Tryd.prog 57 = true := by kernel_rfl
theorem zero77 : zeroE Tryd.prog 77 = some (.opq (.pointer none)) := by kernel_rfl
theorem zeros77 : zerosOf Tryd.prog 77 = some [.opq (.pointer none)] := by kernel_rfl
theorem cells77 : Tryd.prog.cellsOf 77 = 1 := by kernel_rfl
theorem bytes77 : Tryd.prog.bytesOf 77 = 8 := by kernel_rfl
theorem agg77 : isAggT Tryd.prog 77 = false := by kernel_rfl
theorem ok77 : okT Tryd.prog 77 = true := by kernel_rfl
theorem zero80 : zeroE Tryd.prog 80 = some (.sl []) := by kernel_rfl
theorem zeros80 : zerosOf Tryd.prog 80 = some [.sl []] := by kernel_rfl
theorem cells80 : Tryd.prog.cellsOf 80 = 1 := by kernel_rfl
theorem bytes80 : Tryd.prog.bytesOf 80 = 24 := by kernel_rfl
theorem agg80 : isAggT Tryd.prog 80 = false := by kernel_rfl
theorem ok80 : okT Tryd.prog 80 = true := by kernel_rfl
theorem zero81 : zeroE Tryd.prog 81 = some (.opq (.map none)) := by kernel_rfl
theorem zeros81 : zerosOf Tryd.prog 81 = some [.opq (.map none)] := by kernel_rfl
theorem cells81 : Tryd.prog.cellsOf 81 = 1 := by kernel_rfl
theorem bytes81 : Tryd.prog.bytesOf 81 = 8 := by kernel_rfl
theorem agg81 : isAggT Tryd.prog 81 = false := by kernel_rfl
theorem ok81 : okT Tryd.prog 81 = true := by kernel_rfl
theorem zero82 : zeroE Tryd.prog 82 = some (.opq (.map none)) := by kernel_rfl
theorem zeros82 : zerosOf Tryd.prog 82 = some [.opq (.map none)] := by kernel_rfl
theorem cells82 : Tryd.prog.cellsOf 82 = 1 := by kernel_rfl
theorem bytes82 : Tryd.prog.bytesOf 82 = 8 := by kernel_rfl
theorem agg82 : isAggT Tryd.prog 82 = false := by kernel_rfl
theorem ok82 : okT Tryd.prog 82 = true := by kernel_rfl
theorem zero84 : zeroE Tryd.prog 84 = some (.agg [.int .i64 0, .int .i64 0, .int .i64 0, .int .i64 0, .str [], .str [], .int .i64 0, .int .u32 0, .bool false, .int .i64 0, .sl [], .opq (.map none), .opq (.map none)]) := by kernel_rfl
theorem zeros84 : zerosOf Tryd.prog 84 = some [.int .i64 0, .int .i64 0, .int .i64 0, .int .i64 0, .str [], .str [], .int .i64 0, .int .u32 0, .bool false, .int .i64 0, .sl [], .opq (.map none), .opq (.map none)] := by kernel_rfl
theorem cells84 : Tryd.prog.cellsOf 84 = 13 := by kernel_rfl
theorem bytes84 : Tryd.prog.bytesOf 84 = 128 := by kernel_rfl
theorem agg84 : isAggT Tryd.prog 84 = true := by kernel_rfl
theorem ok84 : okT Tryd.prog 84 = true := by kernel_rfl
theorem zero102 : zeroE Tryd.prog 102 = some (.agg [.int .i64 0, .int .i64 0, .int .i64 0, .int .i64 0, .bool false, .bool false]) := by kernel_rfl
theorem zeros102 : zerosOf Tryd.prog 102 = some [.int .i64 0, .int .i64 0, .int .i64 0, .int .i64 0, .bool false, .bool false] := by kernel_rfl
theorem cells102 : Tryd.prog.cellsOf 102 = 6 := by kernel_rfl
theorem bytes102 : Tryd.prog.bytesOf 102 = 40 := by kernel_rfl
theorem agg102 : isAggT Tryd.prog 102 = true := by kernel_rfl
theorem ok102 : okT Tryd.prog 102 = true := by kernel_rfl
theorem zero104 : zeroE Tryd.prog 104 = some (.agg [.int .i64 0, .int .i64 0, .int .i64 0, .int .i64 0, .bool false, .bool false, .int .i64 0, .int .i64 0, .int .i64 0]) := by kernel_rfl
theorem zeros104 : zerosOf Tryd.prog 104 = some [.int .i64 0, .int .i64 0, .int .i64 0, .int .i64 0, .bool false, .bool false, .int .i64 0, .int .i64 0, .int .i64 0] := by kernel_rfl
theorem cells104 : Tryd.prog.cellsOf 104 = 9 := by kernel_rfl
theorem bytes104 : Tryd.prog.bytesOf 104 = 64 := by kernel_rfl
theorem agg104 : isAggT Tryd.prog 104 = true := by kernel_rfl
theorem ok104 : okT Tryd.prog 104 = true := by kernel_rfl
theorem zero115 : zeroE Tryd.prog 115 = some (.opq (.pointer none)) := by kernel_rfl
theorem zeros115 : zerosOf Tryd.prog 115 = some [.opq (.pointer none)] := by kernel_rfl
theorem cells115 : Tryd.prog.cellsOf 115 = 1 := by kernel_rfl
theorem bytes115 : Tryd.prog.bytesOf 115 = 8 := by kernel_rfl
theorem agg115 : isAggT Tryd.prog 115 = false := by kernel_rfl
theorem ok115 : okT Tryd.prog 115 = true := by kernel_rfl
theorem zero116 : zeroE Tryd.prog 116 = some (.opq (.pointer none)) := by kernel_rfl
theorem zeros116 : zerosOf Tryd.prog 116 = some [.opq (.pointer none)] := by kernel_rfl
theorem cells116 : Tryd.prog.cellsOf 116 = 1 := by kernel_rfl
theorem bytes116 : Tryd.prog.bytesOf 116 = 8 := by kernel_rfl
theorem agg116 : isAggT Tryd.prog 116 = false := by kernel_rfl
theorem ok116 : okT Tryd.prog 116 = true := by kernel_rfl
attribute [go_sem] zero57 zeros57 cells57 bytes57 agg57 ok57 zero77 zeros77 cells77 bytes77 agg77 ok77 zero80 zeros80 cells80 bytes80 agg80 ok80 zero81 zeros81 cells81 bytes81 agg81 ok81 zero82 zeros82 cells82 bytes82 agg82 ok82 zero84 zeros84 cells84 bytes84 agg84 ok84 zero102 zeros102 cells102 bytes102 agg102 ok102 zero104 zeros104 cells104 bytes104 agg104 ok104 zero115 zeros115 cells115 bytes115 agg115 ok115 zero116 zeros116 cells116 bytes116 agg116 ok116

def linkL (cf tm : Int) (t : L3) (e : Int) : Option L3 := if (e = 9 ∨ e = 10) ∧ t.2.2 = false then none else hapL cf tm t e
/-- The search's record: the config, the protocol, the nodes, what is known, what fired first. -/
abbrev sB (mc mp : Bool) (cf tm p : Int) (n : Nat) : Ob := .box [.pure mc (.int .i64 cf), .pure mc (.int .i64 tm), .pure mc (.int .i64 1), .pure mc (.int .i64 0), .pure mc (.str []), .pure mc (.str []), .pure mc (.int .i64 0), .pure mc (.int .u32 0), .pure mc (.bool false), .pure mp (.int .i64 p), .row 1 n, .map 2, .map 3]
abbrev pB (m m' m2 : Bool) (t : L3) : Ob := .box [.pure m (.int .i64 t.1), .pure m (.int .i64 t.2.1), .pure m2 (.int .i64 0), .pure m2 (.int .i64 0), .pure m' (.bool t.2.2), .pure m2 (.bool false)]

set_option maxHeartbeats 16000000 in
theorem link_no {cf tm p : Int} (h1 : 1 ≤ cf ∧ cf ≤ 255) (h2 : 1 ≤ tm ∧ tm ≤ 255) {t : L3} {e : Int} (ht : okL t) (h : linkL cf tm t e = none) (mc mp mn mk mf m me : Bool) (n z lim : Nat) (xs : List PV) (ks fs : List (PV × PV)) :
    Runs Tryd.prog env 61 [.ptr 0 0, .ptr 4 0, .ptr 4 4, .pure me (.int .i64 e)] [(0, sB mc mp cf tm p n), (1, .row mn z lim xs), (2, .map mk ks), (3, .map mf fs), (4, pB m m m t)] (.pure true (.bool false)) [(0, sB mc mp cf tm p n), (1, .row mn z lim xs), (2, .map mk ks), (3, .map mf fs), (4, pB m m m t)] := by
  obtain ⟨s, r, q⟩ := t
  unfold linkL at h
  cases hh : hapL cf tm (s, r, q) e with
  | none =>
    have d := fun mc m m' => stepA_no s e r cf tm ht.1 (hapL_no hh) mc m m'
    unfold confV autV at d
    refine Runs.of Tryd.func61 rfl (by simp [Tryd.ntmps61]) ?_
    simp (maxSteps := 400000) -dsimp -implicitDefEqProofs (disch := first | exact TrueB.mk rfl | omega) only [go_sem, Tryd.ntmps61]
    first | refine wpAct_callG (d _ _ _) rfl rfl rfl rfl rfl rfl rfl rfl rfl ?_ | done
    simp (maxSteps := 400000) -dsimp -implicitDefEqProofs (disch := first | exact TrueB.mk rfl | omega) only [go_sem]
    first | exact rfl | done
  | some t' =>
    rw [hh] at h
    obtain ⟨n', l, h3, h4, rfl⟩ := hapL_yes hh
    have d := fun h1 h2 mc m m' => stepA_yes s e r cf tm h1 h2 ht h3 h4 mc m m'
    have hc : (e = 9 ∨ e = 10) ∧ q = false := by
      rcases Classical.em ((e = 9 ∨ e = 10) ∧ q = false) with hc | hc
      · exact hc
      · rw [if_neg hc] at h; cases h
    obtain ⟨he, rfl⟩ := hc
    have d := d h1 h2
    unfold confV autV at d
    rcases he with rfl | rfl
    · refine Runs.of Tryd.func61 rfl (by simp [Tryd.ntmps61]) ?_
      simp (maxSteps := 400000) -dsimp -implicitDefEqProofs (disch := first | exact TrueB.mk rfl | omega) only [go_sem, Tryd.ntmps61]
      first | refine wpAct_call0 (d _ _ _) rfl rfl rfl rfl rfl rfl rfl rfl ?_ | done
      simp (maxSteps := 400000) -dsimp -implicitDefEqProofs (disch := first | exact TrueB.mk rfl | omega) only [go_sem]
      first | exact rfl | done
    · refine Runs.of Tryd.func61 rfl (by simp [Tryd.ntmps61]) ?_
      simp (maxSteps := 400000) -dsimp -implicitDefEqProofs (disch := first | exact TrueB.mk rfl | omega) only [go_sem, Tryd.ntmps61]
      first | refine wpAct_call0 (d _ _ _) rfl rfl rfl rfl rfl rfl rfl rfl ?_ | done
      simp (maxSteps := 400000) -dsimp -implicitDefEqProofs (disch := first | exact TrueB.mk rfl | omega) only [go_sem]
      first | exact rfl | done

def linkY (cf tm p : Int) (t t' : L3) (e : Int) : Prop := ∀ (mc mp mn mk mf m me : Bool) (n z lim : Nat) (xs : List PV) (ks fs : List (PV × PV)),
    Runs Tryd.prog env 61 [.ptr 0 0, .ptr 4 0, .ptr 4 4, .pure me (.int .i64 e)] [(0, sB mc mp cf tm p n), (1, .row mn z lim xs), (2, .map mk ks), (3, .map mf fs), (4, pB m m m t)] (.pure true (.bool true)) [(0, sB mc mp cf tm p n), (1, .row mn z lim xs), (2, .map mk ks), (3, .map mf fs), (4, pB false true m t')]
set_option maxHeartbeats 32000000 in
theorem link_yes {cf tm p : Int} (h1 : 1 ≤ cf ∧ cf ≤ 255) (h2 : 1 ≤ tm ∧ tm ≤ 255) {t t' : L3} {e : Int} (ht : okL t) (h : linkL cf tm t e = some t') : linkY cf tm p t t' e := by
  obtain ⟨s, r, q⟩ := t
  unfold linkL at h
  have hc : ¬ ((e = 9 ∨ e = 10) ∧ q = false) := by
    intro hc
    rw [if_pos hc] at h
    cases h
  rw [if_neg hc] at h
  obtain ⟨n', l, h3, h4, rfl⟩ := hapL_yes h
  have d := fun mc m m' => stepA_yes s e r cf tm h1 h2 ht h3 h4 mc m m'
  have c1 := fun m m' => contains_any l 7 (by omega) m m'
  unfold confV autV at d
  generalize restA cf tm l r = r' at *
  generalize hasN l 7 = h7 at *
  intro mc mp mn mk mf m me n z lim xs ks fs
  cases q with
  | true =>
    rcases Classical.em (e = 9) with e9 | e9
    · subst e9
      refine Runs.of Tryd.func61 rfl (by simp [Tryd.ntmps61]) ?_
      simp (maxSteps := 400000) -dsimp -implicitDefEqProofs (disch := first | exact TrueB.mk rfl | omega) only [go_sem, Tryd.ntmps61]
      first | refine wpAct_call0 (d _ _ _) rfl rfl rfl rfl rfl rfl rfl rfl ?_ | done
      simp (maxSteps := 400000) -dsimp -implicitDefEqProofs (disch := first | exact TrueB.mk rfl | omega) only [go_sem]
      first | exact rfl | done
    · rcases Classical.em (e = 10) with e10 | e10
      · subst e10
        refine Runs.of Tryd.func61 rfl (by simp [Tryd.ntmps61]) ?_
        simp (maxSteps := 400000) -dsimp -implicitDefEqProofs (disch := first | exact TrueB.mk rfl | omega) only [go_sem, Tryd.ntmps61]
        first | refine wpAct_call0 (d _ _ _) rfl rfl rfl rfl rfl rfl rfl rfl ?_ | done
        simp (maxSteps := 400000) -dsimp -implicitDefEqProofs (disch := first | exact TrueB.mk rfl | omega) only [go_sem]
        first | exact rfl | done
      · refine Runs.of Tryd.func61 rfl (by simp [Tryd.ntmps61]) ?_
        simp (maxSteps := 400000) -dsimp -implicitDefEqProofs (disch := first | exact TrueB.mk rfl | omega) only [go_sem, Tryd.ntmps61]
        first | refine wpAct_call0 (d _ _ _) rfl rfl rfl rfl rfl rfl rfl rfl ?_ | done
        simp (maxSteps := 400000) -dsimp -implicitDefEqProofs (disch := first | exact TrueB.mk rfl | omega) only [go_sem, e9, e10]
        first | exact rfl | done
  | false =>
    have e9 : ¬ e = 9 := fun h => hc ⟨.inl h, rfl⟩
    have e10 : ¬ e = 10 := fun h => hc ⟨.inr h, rfl⟩
    refine Runs.of Tryd.func61 rfl (by simp [Tryd.ntmps61]) ?_
    simp (maxSteps := 400000) -dsimp -implicitDefEqProofs (disch := first | exact TrueB.mk rfl | omega) only [go_sem, Tryd.ntmps61]
    first | refine wpAct_call0 (d _ _ _) rfl rfl rfl rfl rfl rfl rfl rfl ?_ | done
    simp (maxSteps := 400000) -dsimp -implicitDefEqProofs (disch := first | exact TrueB.mk rfl | omega) only [go_sem, e9, e10]
    first | refine wpAct_call0 (c1 _ _) rfl rfl rfl rfl rfl rfl rfl rfl ?_ | done
    simp (maxSteps := 400000) -dsimp -implicitDefEqProofs (disch := first | exact TrueB.mk rfl | omega) only [go_sem, Bool.false_or]
    first | exact rfl | done

def pV (t : L3) : PV := .agg [.int .i64 t.1, .int .i64 t.2.1, .int .i64 0, .int .i64 0, .bool t.2.2, .bool false]

set_option maxHeartbeats 16000000 in
theorem whole_no {cf tm p : Int} (h1 : 1 ≤ cf ∧ cf ≤ 255) (h2 : 1 ≤ tm ∧ tm ≤ 255) {t : L3} {e : Int} (ht : okL t) (h : linkL cf tm t e = none) (mc mp mn mk mf m me : Bool) (n z lim : Nat) (xs : List PV) (ks fs : List (PV × PV)) :
    Runs Tryd.prog env 56 [.ptr 0 0, .pure m (pV t), .pure me (.int .i64 e)] [(0, sB mc mp cf tm p n), (1, .row mn z lim xs), (2, .map mk ks), (3, .map mf fs)] (.tuple [.pure m (pV t), .pure (m && me) (cV (49185, t.1, e)), .pure true (.bool false)]) [(0, sB mc mp cf tm p n), (1, .row false z lim xs), (2, .map false ks), (3, .map false fs)] := by
  have c := fun mc mp mn mk mf m me => link_no (p := p) h1 h2 ht h mc mp mn mk mf m me n z lim xs ks fs
  obtain ⟨s, r, q⟩ := t
  unfold pV cV
  refine Runs.of Tryd.func56 rfl (by simp [Tryd.ntmps56]) ?_
  simp (maxSteps := 400000) -dsimp -implicitDefEqProofs (disch := first | exact TrueB.mk rfl | omega) only [go_sem, Tryd.ntmps56]
  refine wpAct_callS [0, 1, 2, 3, 68] (c mc mp false false false m _) rfl rfl rfl rfl rfl rfl rfl rfl (by cases mc <;> cases mp <;> cases m <;> rfl) rfl ?_
  simp (maxSteps := 400000) -dsimp -implicitDefEqProofs (disch := first | exact TrueB.mk rfl | omega) only [go_sem]
  cases m <;> cases me <;> exact rfl

set_option maxHeartbeats 16000000 in
theorem whole_yes {cf tm p : Int} (h1 : 1 ≤ cf ∧ cf ≤ 255) (h2 : 1 ≤ tm ∧ tm ≤ 255) {t t' : L3} {e : Int} (ht : okL t) (h : linkL cf tm t e = some t') (mc mp mn mk mf m me : Bool) (n z lim : Nat) (xs : List PV) (ks fs : List (PV × PV)) :
    Runs Tryd.prog env 56 [.ptr 0 0, .pure m (pV t), .pure me (.int .i64 e)] [(0, sB mc mp cf tm p n), (1, .row mn z lim xs), (2, .map mk ks), (3, .map mf fs)] (.tuple [.pure false (pV t'), .pure (m && me) (cV (49185, t.1, e)), .pure true (.bool true)]) [(0, sB mc mp cf tm p n), (1, .row false z lim xs), (2, .map false ks), (3, .map false fs)] := by
  have c := fun mc mp mn mk mf m me => link_yes (p := p) h1 h2 ht h mc mp mn mk mf m me n z lim xs ks fs
  obtain ⟨s, r, q⟩ := t
  obtain ⟨s', r', q'⟩ := t'
  unfold pV cV
  refine Runs.of Tryd.func56 rfl (by simp [Tryd.ntmps56]) ?_
  simp (maxSteps := 400000) -dsimp -implicitDefEqProofs (disch := first | exact TrueB.mk rfl | omega) only [go_sem, Tryd.ntmps56]
  refine wpAct_callS [0, 1, 2, 3, 68] (c mc mp false false false m _) rfl rfl rfl rfl rfl rfl rfl rfl (by cases mc <;> cases mp <;> cases m <;> rfl) rfl ?_
  simp (maxSteps := 400000) -dsimp -implicitDefEqProofs (disch := first | exact TrueB.mk rfl | omega) only [go_sem]
  cases m <;> cases me <;> exact rfl

theorem apartP : Apart pV := by
  rintro ⟨a, b, x⟩ ⟨c, d, y⟩
  refine ⟨rfl, ?_⟩
  rw [dec3]
  simp [pV, PV.cells, eqCells]
abbrev NodeT := L3 × Int × S2
def nV (x : NodeT) : PV := .agg [.int .i64 x.1.1, .int .i64 x.1.2.1, .int .i64 0, .int .i64 0, .bool x.1.2.2, .bool false, .int .i64 x.2.1, .int .i64 x.2.2.1, .int .i64 x.2.2.2]
def nodesV (l : List NodeT) : List PV := l.map nV
theorem nodesV_length (l : List NodeT) : (nodesV l).length = l.length := by simp [nodesV]
def firstM (l : List (C3 × Nat)) : List (PV × PV) := l.map fun x => (cV x.1, .int .i64 x.2)
def firedF (c : C3) : List (C3 × Nat) → Option Nat
  | [] => none
  | (d, a) :: t => if c = d then some a else firedF c t
theorem find_first (c : C3) (l : List (C3 × Nat)) : mapFind (cV c) (firstM l) = some ((firedF c l).map fun (a : Nat) => .int .i64 a) := by
  induction l with
  | nil => rfl
  | cons u r ih =>
    obtain ⟨d, a⟩ := u
    have e : firstM ((d, a) :: r) = (cV d, .int .i64 a) :: firstM r := rfl
    have h1 : (cV c).isAgg = (cV d).isAgg := rfl
    rw [e, mapFind, if_pos h1, eqC]
    by_cases h : c = d
    · simp [h, firedF]
    · simp [h, firedF, ih]
theorem put_first (c : C3) (a : Nat) (l : List (C3 × Nat)) (h : firedF c l = none) : mapPut (cV c) (.int .i64 a) (firstM l) = firstM (l ++ [(c, a)]) := by
  induction l with
  | nil => rfl
  | cons u r ih =>
    obtain ⟨d, b⟩ := u
    have e : firstM ((d, b) :: r) = (cV d, .int .i64 b) :: firstM r := rfl
    rw [e, mapPut, eqC]
    by_cases h1 : c = d
    · simp [firedF, h1] at h
    · rw [decide_eq_false h1]
      simp only
      rw [ih (by simpa [firedF, h1] using h)]
      rfl
/-- The search's state: the nodes, the pairs that are known, where each cell fired first. -/
abbrev F3 := List NodeT × List L3 × List (C3 × Nat)
def addP (fr : Int) (x : S2) (t : L3) (c : C3) (s : F3) : F3 :=
  let n1 := if t ∈ s.2.1 then s.1 else s.1 ++ [(t, fr, x)]
  let k1 := if t ∈ s.2.1 then s.2.1 else s.2.1 ++ [t]
  match firedF c s.2.2 with
  | some _ => (n1, k1, s.2.2)
  | none => if t ∈ s.2.1 then (s.1 ++ [(t, fr, x)], k1, s.2.2 ++ [(c, s.1.length)]) else (n1, k1, s.2.2 ++ [(c, s.1.length)])
def sS (cf tm p : Int) (lim : Nat) (s : F3) : Store := [(0, sB true true cf tm p s.1.length), (1, .row false 9 lim (nodesV s.1)), (2, .map false (seenM pV s.2.1)), (3, .map false (firstM s.2.2))]

set_option maxHeartbeats 32000000 in
theorem add_any {cf tm p fr : Int} {x : S2} {t : L3} {c : C3} {s : F3} {lim : Nat} (hc : c.1 ≠ 0) (hn : s.1.length ≤ 100000) (hl : lim ≤ s.1.length) :
    ∃ lim', (lim = s.1.length - 1 → lim' = (addP fr x t c s).1.length - 1) ∧ ∀ m1 m2 m3 m4 : Bool, Runs Tryd.prog env 57 [.ptr 0 0, .pure m1 (.int .i64 fr), .pure m2 (sV x), .pure m3 (pV t), .pure m4 (cV c)] (sS cf tm p lim s) (.tuple []) (sS cf tm p lim' (addP fr x t c s)) := by
  obtain ⟨N, K, F⟩ := s
  obtain ⟨a, r, q⟩ := t
  obtain ⟨c0, c1, c2⟩ := c
  obtain ⟨x0, x1⟩ := x
  have hNl := nodesV_length N
  have gs1 : mapFind (.agg [.int .i64 a, .int .i64 r, .int .i64 0, .int .i64 0, .bool q, .bool false]) (seenM pV K) = some (if ((a, r, q) : L3) ∈ K then some (.bool true) else none) := find_seen apartP (a, r, q) K
  have gf1 : mapFind (.agg [.int .i64 c0, .int .i64 c1, .int .i64 c2]) (firstM F) = some ((firedF (c0, c1, c2) F).map fun (a : Nat) => .int .i64 a) := find_first (c0, c1, c2) F
  have gp : ∀ n : Nat, firedF (c0, c1, c2) F = none → mapPut (.agg [.int .i64 c0, .int .i64 c1, .int .i64 c2]) (.int .i64 n) (firstM F) = firstM (F ++ [((c0, c1, c2), n)]) := fun n h => put_first (c0, c1, c2) n F h
  have gq : ((a, r, q) : L3) ∉ K → mapPut (.agg [.int .i64 a, .int .i64 r, .int .i64 0, .int .i64 0, .bool q, .bool false]) (.bool true) (seenM pV K) = seenM pV (K ++ [(a, r, q)]) := fun h => put_seen apartP (a, r, q) K h
  have e1 : pV (a, r, q) = .agg [.int .i64 a, .int .i64 r, .int .i64 0, .int .i64 0, .bool q, .bool false] := rfl
  have e2 : cV (c0, c1, c2) = .agg [.int .i64 c0, .int .i64 c1, .int .i64 c2] := rfl
  have e3 : sV (x0, x1) = .agg [.int .i64 x0, .int .i64 x1] := rfl
  have en : nodesV (N ++ [((a, r, q), fr, (x0, x1))]) = nodesV N ++ [.agg [.int .i64 a, .int .i64 r, .int .i64 0, .int .i64 0, .bool q, .bool false, .int .i64 fr, .int .i64 x0, .int .i64 x1]] := by simp [nodesV, nV]
  simp only at hc hn hl
  rw [e1, e2, e3]
  unfold addP sS
  simp only
  by_cases hk : ((a, r, q) : L3) ∈ K
  · rw [if_pos hk] at gs1
    simp only [if_pos hk]
    cases hf : firedF (c0, c1, c2) F with
    | some a0 =>
      rw [hf] at gf1
      simp only [Option.map_some] at gf1 ⊢
      refine ⟨lim, fun h => h, fun m1 m2 m3 m4 => ?_⟩
      refine Runs.of Tryd.func57 rfl (by simp [Tryd.ntmps57]) ?_
      simp (maxSteps := 400000) -dsimp -implicitDefEqProofs (disch := first | exact TrueB.mk rfl | omega) only [go_sem, Tryd.ntmps57, gs1, gf1, hc]
      first | exact rfl | done
    | none =>
      rw [hf] at gf1
      have gp := gp N.length hf
      simp only [Option.map_none] at gf1 ⊢
      refine ⟨N.length, (fun _ => by rw [List.length_append, List.length_singleton]; omega), fun m1 m2 m3 m4 => ?_⟩
      rw [en, List.length_append, List.length_cons, List.length_nil]
      refine Runs.of Tryd.func57 rfl (by simp [Tryd.ntmps57]) ?_
      simp (maxSteps := 400000) -dsimp -implicitDefEqProofs (disch := first | exact TrueB.mk rfl | omega) only [go_sem, Tryd.ntmps57, gs1, gf1, hc, hNl, gp, Bool.or_true]
      first | exact rfl | done
  · rw [if_neg hk] at gs1
    have gq := gq hk
    simp only [if_neg hk]
    cases hf : firedF (c0, c1, c2) F with
    | some a0 =>
      rw [hf] at gf1
      simp only [Option.map_some] at gf1 ⊢
      refine ⟨N.length, (fun _ => by rw [List.length_append, List.length_singleton]; omega), fun m1 m2 m3 m4 => ?_⟩
      rw [en, List.length_append, List.length_cons, List.length_nil]
      refine Runs.of Tryd.func57 rfl (by simp [Tryd.ntmps57]) ?_
      simp (maxSteps := 400000) -dsimp -implicitDefEqProofs (disch := first | exact TrueB.mk rfl | omega) only [go_sem, Tryd.ntmps57, gs1, gf1, hc, hNl, gq, Bool.or_true]
      first | exact rfl | done
    | none =>
      rw [hf] at gf1
      have gp := gp N.length hf
      simp only [Option.map_none] at gf1 ⊢
      refine ⟨N.length, (fun _ => by rw [List.length_append, List.length_singleton]; omega), fun m1 m2 m3 m4 => ?_⟩
      rw [en, List.length_append, List.length_cons, List.length_nil]
      refine Runs.of Tryd.func57 rfl (by simp [Tryd.ntmps57]) ?_
      simp (maxSteps := 400000) -dsimp -implicitDefEqProofs (disch := first | exact TrueB.mk rfl | omega) only [go_sem, Tryd.ntmps57, gs1, gf1, hc, hNl, gp, gq, Bool.or_true]
      first | exact rfl | done

/-- The events of one node that are left. -/
def evP (cf tm : Int) (i : Nat) (t : L3) : Nat → F3 → Option F3
  | 0, s => some s
  | k + 1, s => match linkL cf tm t (16 - (k : Int)) with
    | none => evP cf tm i t k s
    | some t' => if s.1.length ≤ 100000 then evP cf tm i t k (addP i (49185, 16 - (k : Int)) t' (49185, t.1, 16 - (k : Int)) s) else none
/-- The search over LCP. -/
def runP (cf tm : Int) : Nat → Nat → F3 → List L3 → Option F3
  | 0, _, _, _ => none
  | f + 1, i, s, D => match s.1[i]? with
    | none => some s
    | some x => if x.1 ∈ D then runP cf tm f (i + 1) s D else if 0 ≤ x.1.2.1 ∧ x.1.2.1 ≤ 255 then match evP cf tm i x.1 16 s with
        | none => none
        | some s' => runP cf tm f (i + 1) s' (D ++ [x.1])
      else none
theorem addP_len (fr : Int) (x : S2) (t : L3) (c : C3) (s : F3) : s.1.length ≤ (addP fr x t c s).1.length ∧ (addP fr x t c s).1.length ≤ s.1.length + 1 := by
  unfold addP
  simp only
  split
  · split <;> simp
  · split <;> simp_all
theorem evP_len {cf tm : Int} {i : Nat} {t : L3} : ∀ (k : Nat) {s s' : F3}, evP cf tm i t k s = some s' → s.1.length ≤ 100001 → s.1.length ≤ s'.1.length ∧ s'.1.length ≤ 100001 := by
  intro k
  induction k with
  | zero => intro s s' h hl; simp only [evP] at h; cases h; exact ⟨Nat.le_refl _, hl⟩
  | succ k ih =>
    intro s s' h hl
    simp only [evP] at h
    split at h
    · exact ih h hl
    · rename_i t' ht
      split at h
      · rename_i h2
        have q := addP_len i (49185, 16 - (k : Int)) t' (49185, t.1, 16 - (k : Int)) s
        have := ih h (by omega)
        omega
      · cases h
def head5 (cf tm : Int) (x : Nat × Nat × F3 × List L3 × Nat) : St :=
  ⟨[(0, .ptr 0 0), (2, .map 1988), (3, .pure true (.int .i64 (x.2.1 : Nat)))],
   [(0, .box [.pure true (.int .i64 cf), .pure true (.int .i64 tm), .pure true (.int .i64 1), .pure true (.int .i64 0), .pure true (.str []), .pure true (.str []), .pure true (.int .i64 0), .pure true (.int .u32 0), .pure true (.bool false), .pure true (.int .i64 49185), .row 1985 x.2.2.1.1.length, .map 1986, .map 1987]), (1985, .row (decide (x.2.1 = 0)) 9 x.2.2.2.2 (nodesV x.2.2.1.1)), (1986, .map (decide (x.2.1 = 0)) (seenM pV x.2.2.1.2.1)), (1987, .map (decide (x.2.1 = 0)) (firstM x.2.2.1.2.2)), (1988, .map true (seenM pV x.2.2.2.1))]⟩
def I5 (cf tm : Int) (G : F3) (x : Nat × Nat × F3 × List L3 × Nat) : Prop := x.2.1 ≤ x.2.2.1.1.length ∧ x.2.2.1.1.length ≤ 100001 ∧ x.2.2.2.2 = x.2.2.1.1.length - 1 ∧ (x.2.1 = 0 → x.2.2.2.1 = []) ∧ 1 ≤ x.2.2.1.1.length ∧ runP cf tm x.1 x.2.1 x.2.2.1 x.2.2.2.1 = some G
def head11 (cf tm : Int) (i : Nat) (a r : Int) (q b : Bool) (D : List L3) (x : Nat × F3 × Nat × Bool) : St :=
  ⟨[(0, .ptr 0 0), (2, .map 1988), (3, .pure true (.int .i64 (i : Nat))), (4, .ptr 1989 0), (5, .pure true (.int .i64 (17 - (x.1 : Int))))],
   [(0, .box [.pure true (.int .i64 cf), .pure true (.int .i64 tm), .pure true (.int .i64 1), .pure true (.int .i64 0), .pure true (.str []), .pure true (.str []), .pure true (.int .i64 0), .pure true (.int .u32 0), .pure true (.bool false), .pure true (.int .i64 49185), .row 1985 x.2.1.1.length, .map 1986, .map 1987]), (1985, .row x.2.2.2 9 x.2.2.1 (nodesV x.2.1.1)), (1986, .map x.2.2.2 (seenM pV x.2.1.2.1)), (1987, .map x.2.2.2 (firstM x.2.1.2.2)), (1988, .map true (seenM pV D)), (1989, .box [.pure b (.int .i64 a), .pure b (.int .i64 r), .pure b (.int .i64 0), .pure b (.int .i64 0), .pure b (.bool q), .pure b (.bool false)])]⟩
def I11 (cf tm : Int) (i : Nat) (t : L3) (s' : F3) (x : Nat × F3 × Nat × Bool) : Prop := x.1 ≤ 16 ∧ (x.1 < 16 → x.2.2.2 = false) ∧ x.2.1.1.length ≤ 100001 ∧ x.2.2.1 = x.2.1.1.length - 1 ∧ evP cf tm i t x.1 x.2.1 = some s'

set_option maxHeartbeats 64000000 in
theorem run_lcp {cf tm : Int} (h1 : 1 ≤ cf ∧ cf ≤ 255) (h2 : 1 ≤ tm ∧ tm ≤ 255) {f : Nat} {G : F3} (h : runP cf tm f 0 ([((0, 0, false), -1, (0, 0))], [(0, 0, false)], []) [] = some G) (u1 u2 u3 : Bool) :
    Runs Tryd.prog env 50 [.ptr 0 0] [(0, .box [.pure true (.int .i64 cf), .pure true (.int .i64 tm), .pure true (.int .i64 1), .pure true (.int .i64 0), .pure true (.str []), .pure true (.str []), .pure true (.int .i64 0), .pure true (.int .u32 0), .pure true (.bool false), .pure true (.int .i64 49185), .pure u1 (.sl []), .pure u2 (.opq (.map none)), .pure u3 (.opq (.map none))])] (.tuple []) (sS cf tm 49185 (G.1.length - 1) G) := by
  have g1 : mapPut (PV.agg [.int .i64 0, .int .i64 0, .int .i64 0, .int .i64 0, .bool false, .bool false]) (.bool true) ([] : List (PV × PV)) = seenM pV [(0, 0, false)] := rfl
  have g0 : mapFind (PV.agg [.int .i64 0, .int .i64 0, .int .i64 0, .int .i64 0, .bool false, .bool false]) ([] : List (PV × PV)) = some none := rfl
  refine Runs.of Tryd.func50 rfl (by simp [Tryd.ntmps50]) ?_
  simp (maxSteps := 400000) -dsimp -implicitDefEqProofs (disch := first | exact TrueB.mk rfl | omega) only [go_sem, Tryd.ntmps50, g0, g1]
  refine wpLoop_ind (head5 cf tm) (I5 cf tm G) (fun x => x.1) ?_ (f, 0, ([((0, 0, false), -1, (0, 0))], [(0, 0, false)], []), [], 0) ⟨by simp, by simp, by simp, fun _ => rfl, by simp, h⟩ rfl
  clear h f g1 g0
  rintro ⟨f, i, ⟨N, K, F⟩, D, lim⟩ ⟨hi, hl, hlim, hD, hN1, hr⟩
  simp only at hi hl hlim hD hN1 hr
  simp only [head5]
  have hNl := nodesV_length N
  cases f with
  | zero => cases hr
  | succ f =>
  simp only [runP] at hr
  rcases Classical.em (i < N.length) with hlt | hge
  · rw [List.getElem?_eq_getElem hlt] at hr
    simp only at hr
    have gn0 : (nodesV N)[i]? = some (nV N[i]) := by simp [nodesV, hlt]
    generalize N[i] = x at *
    obtain ⟨⟨a, r, q⟩, fr, x0, x1⟩ := x
    have gn : (nodesV N)[i]? = some (.agg [.int .i64 a, .int .i64 r, .int .i64 0, .int .i64 0, .bool q, .bool false, .int .i64 fr, .int .i64 x0, .int .i64 x1]) := gn0
    have gd : mapFind (.agg [.int .i64 a, .int .i64 r, .int .i64 0, .int .i64 0, .bool q, .bool false]) (seenM pV D) = some (if ((a, r, q) : L3) ∈ D then some (.bool true) else none) := find_seen apartP (a, r, q) D
    simp only at hr
    by_cases hm : ((a, r, q) : L3) ∈ D
    · rw [if_pos hm] at gd hr
      have hi0 : ¬ i = 0 := fun h => by rw [hD h] at hm; cases hm
      rw [decide_eq_false hi0]
      simp (maxSteps := 400000) -dsimp -implicitDefEqProofs (disch := first | exact TrueB.mk rfl | omega) only [go_sem, gn, gd, hNl]
      refine again_mk ⟨(f, i + 1, (N, K, F), D, lim), ⟨hlt, hl, hlim, fun h => absurd h (Nat.succ_ne_zero i), hN1, hr⟩, Nat.lt_succ_self f, ?_⟩
      simp only [head5, decide_eq_false (Nat.succ_ne_zero i)]
      rfl
    · rw [if_neg hm] at gd hr
      have gq : mapPut (.agg [.int .i64 a, .int .i64 r, .int .i64 0, .int .i64 0, .bool q, .bool false]) (.bool true) (seenM pV D) = seenM pV (D ++ [(a, r, q)]) := put_seen apartP (a, r, q) D hm
      split at hr
      · rename_i hok
        split at hr
        · cases hr
        · rename_i s' hev
          obtain ⟨b, hb⟩ : ∃ b, b = decide (i = 0) := ⟨_, rfl⟩
          rw [← hb]
          clear hb hD
          simp (maxSteps := 400000) -dsimp -implicitDefEqProofs (disch := first | exact TrueB.mk rfl | omega) only [go_sem, gn, gd, gq, hNl]
          refine wpLoop_ind (head11 cf tm i a r q b (D ++ [(a, r, q)])) (I11 cf tm i (a, r, q) s') (fun x => x.1) ?_ (16, (N, K, F), lim, b) ⟨Nat.le_refl _, fun h => absurd h (Nat.lt_irrefl _), hl, hlim, hev⟩ rfl
          have hevl := evP_len 16 hev hl
          clear gn0 gn gd gq hNl hl hlim hev hi
          generalize D ++ [(a, r, q)] = D' at *
          obtain ⟨N0, hN0⟩ : ∃ N0, N0 = N.length := ⟨_, rfl⟩
          rw [← hN0] at hlt hN1 hevl
          clear hm hN0 N K F lim
          rintro ⟨k, ⟨N, K, F⟩, lim, b'⟩ ⟨hk, hb, hl, hlim, hev⟩
          simp only at hk hb hl hlim hev
          simp only [head11]
          cases k with
          | zero =>
            obtain rfl : b' = false := hb (by omega)
            simp only [evP, Option.some.injEq] at hev
            subst hev
            simp only at hevl
            have e0 : (17 : Int) - ((0 : Nat) : Int) = 17 := rfl
            simp (maxSteps := 400000) -dsimp -implicitDefEqProofs (disch := first | exact TrueB.mk rfl | omega) only [go_sem, e0]
            refine again_mk ⟨(f, i + 1, (N, K, F), D', lim), ⟨(show i + 1 ≤ N.length by omega), hl, hlim, fun h => absurd h (Nat.succ_ne_zero i), (show 1 ≤ N.length by omega), hr⟩, Nat.lt_succ_self f, ?_⟩
            simp only [head5, decide_eq_false (Nat.succ_ne_zero i)]
            rfl
          | succ k =>
            have e0 : (17 : Int) - ((k + 1 : Nat) : Int) = 16 - (k : Int) := by omega
            rw [e0]
            simp only [evP] at hev
            obtain ⟨e, he⟩ : ∃ e : Int, e = 16 - (k : Int) := ⟨_, rfl⟩
            rw [← he] at hev ⊢
            have hk' : (17 : Int) - (k : Int) = e + 1 := by omega
            have hk2 : e ≤ 16 := by omega
            have hk3 : 1 ≤ e := by omega
            cases hL : linkL cf tm (a, r, q) e with
            | none =>
              rw [hL] at hev
              simp only at hev
              have c := fun m me => whole_no (p := 49185) (t := (a, r, q)) h1 h2 hok hL true true false false false m me N.length 9 lim (nodesV N) (seenM pV K) (firstM F)
              have e1 : pV (a, r, q) = .agg [.int .i64 a, .int .i64 r, .int .i64 0, .int .i64 0, .bool q, .bool false] := rfl
              have e2 : cV (49185, a, e) = .agg [.int .i64 49185, .int .i64 a, .int .i64 e] := rfl
              simp only [e1, e2] at c
              unfold sB at c
              simp (maxSteps := 400000) -dsimp -implicitDefEqProofs (disch := first | exact TrueB.mk rfl | omega) only [go_sem]
              refine wpAct_callS [0, 1985, 1986, 1987] (c _ _) rfl rfl rfl rfl rfl rfl rfl rfl rfl rfl ?_
              simp (maxSteps := 400000) -dsimp -implicitDefEqProofs (disch := first | exact TrueB.mk rfl | omega) only [go_sem]
              refine again_mk ⟨(k, (N, K, F), lim, false), ⟨(show k ≤ 16 by omega), fun _ => rfl, hl, hlim, hev⟩, Nat.lt_succ_self k, ?_⟩
              simp only [head11, hk']
              rfl
            | some t' =>
              rw [hL] at hev
              simp only at hev
              split at hev
              · rename_i hn
                have c := fun m me => whole_yes (p := 49185) (t := (a, r, q)) h1 h2 hok hL true true false false false m me N.length 9 lim (nodesV N) (seenM pV K) (firstM F)
                obtain ⟨lim', hlim', cc⟩ := add_any (cf := cf) (tm := tm) (p := 49185) (fr := i) (x := (49185, e)) (t := t') (c := (49185, a, e)) (s := (N, K, F)) (lim := lim) (by simp) hn (by simp only; omega)
                have hal := addP_len i (49185, e) t' (49185, a, e) (N, K, F)
                obtain ⟨a', r', q'⟩ := t'
                have e1 : pV (a, r, q) = .agg [.int .i64 a, .int .i64 r, .int .i64 0, .int .i64 0, .bool q, .bool false] := rfl
                have e2 : cV (49185, a, e) = .agg [.int .i64 49185, .int .i64 a, .int .i64 e] := rfl
                have e3 : pV (a', r', q') = .agg [.int .i64 a', .int .i64 r', .int .i64 0, .int .i64 0, .bool q', .bool false] := rfl
                have e4 : sV (49185, e) = .agg [.int .i64 49185, .int .i64 e] := rfl
                simp only [e1, e2, e3] at c
                simp only [e2, e3, e4] at cc
                unfold sB at c
                simp (maxSteps := 400000) -dsimp -implicitDefEqProofs (disch := first | exact TrueB.mk rfl | omega) only [go_sem]
                refine wpAct_callS [0, 1985, 1986, 1987] (c _ _) rfl rfl rfl rfl rfl rfl rfl rfl rfl rfl ?_
                simp (maxSteps := 400000) -dsimp -implicitDefEqProofs (disch := first | exact TrueB.mk rfl | omega) only [go_sem]
                refine wpAct_callS [0, 1985, 1986, 1987] (cc _ _ _ _) rfl rfl rfl rfl rfl rfl rfl rfl rfl rfl ?_
                simp (maxSteps := 400000) -dsimp -implicitDefEqProofs (disch := first | exact TrueB.mk rfl | omega) only [go_sem]
                refine again_mk ⟨(k, addP i (49185, e) (a', r', q') (49185, a, e) (N, K, F), lim', false), ⟨(show k ≤ 16 by omega), fun _ => rfl, Nat.le_trans hal.2 (Nat.succ_le_succ hn), hlim' hlim, hev⟩, Nat.lt_succ_self k, ?_⟩
                simp only [head11, hk']
                rfl
              · cases hev
      · cases hr
  · rw [List.getElem?_eq_none (by omega)] at hr
    simp only [Option.some.injEq] at hr
    subst hr
    have hi0 : ¬ i = 0 := by omega
    rw [decide_eq_false hi0]
    simp (maxSteps := 400000) -dsimp -implicitDefEqProofs (disch := first | exact TrueB.mk rfl | omega) only [go_sem, hNl]
    subst hlim
    exact rfl

abbrev J0 : F3 := ([((0, 0, false), -1, (0, 0))], [(0, 0, false)], [])
set_option maxHeartbeats 16000000 in
theorem searched_lcp {cf tm : Int} (h1 : 1 ≤ cf ∧ cf ≤ 255) (h2 : 1 ≤ tm ∧ tm ≤ 255) {f : Nat} {G : F3} (h : runP cf tm f 0 J0 [] = some G) :
    Runs Tryd.prog env 38 [.pure true (confV cf tm 1), .pure true (.int .i64 49185)] [] (.ptr 0 0) (sS cf tm 49185 (G.1.length - 1) G) := by
  have c := fun u1 u2 u3 => run_lcp h1 h2 h u1 u2 u3
  unfold confV
  have k1 : ∀ v, evalO env v (.const (.pointer none)) = .pure true (.opq (.pointer none)) := fun _ => rfl
  have k2 : isNilSlice (.const (.pointer none)) = false := rfl
  refine Runs.of Tryd.func38 rfl (by simp [Tryd.ntmps38]) ?_
  simp (maxSteps := 400000) -dsimp -implicitDefEqProofs (disch := first | exact TrueB.mk rfl | omega) only [go_sem, Tryd.ntmps38, k1, k2]
  first | refine wpAct_callS [144] (c _ _ _) rfl rfl rfl rfl rfl rfl rfl rfl rfl rfl ?_ | done
  simp (maxSteps := 400000) -dsimp -implicitDefEqProofs (disch := first | exact TrueB.mk rfl | omega) only [go_sem]
  first | exact rfl | done

def hkS (cf tm : Int) : CF := fun g a S => if g = 38 then match a, S with
    | [.pure true c, .pure true (.int .i64 p)], [] => if isConf cf tm c && decide (p = 49185) then match runP cf tm 1000 0 J0 [] with
        | some G => some (.ptr 0 0, sS cf tm 49185 (G.1.length - 1) G)
        | none => none
      else none
    | _, _ => none
  else none
theorem hkS_ok {cf tm : Int} (h1 : 1 ≤ cf ∧ cf ≤ 255) (h2 : 1 ≤ tm ∧ tm ≤ 255) : CfOk Tryd.prog env (hkS cf tm) := by
  intro g a S r h
  unfold hkS at h
  split at h
  · rename_i hg
    subst hg
    split at h
    · split at h
      · rename_i hc
        rw [Bool.and_eq_true, decide_eq_true_eq] at hc
        obtain ⟨hc, rfl⟩ := hc
        obtain rfl := isConf_eq hc
        split at h
        · rename_i G hG
          cases h
          exact searched_lcp h1 h2 hG
        · cases h
      · cases h
    · cases h
  · cases h

theorem awake28_ok : Runs Tryd.prog env 21 [] [] (.pure true (.bool true)) [] := runs_hook (hkOr_ok (hkH_ok (cf := 1) (tm := 1) (by decide) (by decide)) (hkS_ok (cf := 1) (tm := 1) (by decide) (by decide))) 400 (by kernel_rfl)

theorem first_mem (x : S2) (l : List S2) (h : x ∈ l) : ∃ (j : Nat) (hj : j < l.length), l[j] = x ∧ ∀ i (hi : i < l.length), i < j → l[i] ≠ x := by
  obtain ⟨j, hj, h1, h2⟩ := first_no (fun y => decide (y ≠ x)) l ⟨x, h, by simp⟩
  refine ⟨j, hj, by simpa using h1, fun i hi hij => by simpa using h2 i hi hij⟩

set_option maxHeartbeats 8000000 in
theorem indexS (l : List S2) (x : S2) (hl : l.length ≤ 100000) : ∃ n : Int, (0 ≤ n ↔ x ∈ l) ∧ ∀ m m', Runs Tryd.prog env 52 [.pure m (.sl (stepsV l)), .pure m' (sV x)] [] (.pure true (.int .i64 n)) [] := by
  have hsl := stepsV_length l
  by_cases hx : x ∈ l
  · obtain ⟨j, hj, hj1, hj2⟩ := first_mem x l hx
    refine ⟨(j : Nat), ⟨fun _ => hx, fun _ => by omega⟩, fun m m' => ?_⟩
    clear hx
    obtain ⟨p, e⟩ := x
    unfold sV
    refine Runs.of Tryd.func52 rfl (by simp [Tryd.ntmps52]) ?_
    simp (maxSteps := 400000) -dsimp -implicitDefEqProofs (disch := first | exact TrueB.mk rfl | omega) only [go_sem, Tryd.ntmps52, hsl]
    refine wpLoop_ind (α := Nat)
      (fun i => ⟨[(0, .pure m (.sl (stepsV l))), (3, .ptr 304 0), (7, .pure true (.int .i64 (l.length : Nat))), (8, .pure true (.int .i64 i))], [(304, .box [.pure m' (.int .i64 p), .pure m' (.int .i64 e)])]⟩)
      (fun i => i ≤ j) (fun i => l.length - i) ?_ 0 (by omega) rfl
    rintro i hi
    have hlt : i < l.length := by omega
    have g1 := steps_at hlt
    rcases Classical.em (i = j) with rfl | hne
    · rw [hj1] at g1
      simp (maxSteps := 400000) -dsimp -implicitDefEqProofs (disch := first | exact TrueB.mk rfl | omega) only [go_sem, g1, hsl, beq_same]
      first | exact end_int rfl rfl | done
    · have hn := hj2 i hlt (by omega)
      generalize l[i] = y at *
      obtain ⟨a, b⟩ := y
      simp only at *
      rcases Classical.em (p = a) with h4 | h4
      · have h5 : ¬ e = b := fun h => hn (by rw [h4, h])
        subst h4
        have h7 : (e == b) = false := by simpa using h5
        simp (maxSteps := 400000) -dsimp -implicitDefEqProofs (disch := first | exact TrueB.mk rfl | omega) only [go_sem, g1, hsl, beq_same, h7]
        exact again_mk ⟨i + 1, by omega, by omega, rfl⟩
      · have h7 : (p == a) = false := by simpa using h4
        simp (maxSteps := 400000) -dsimp -implicitDefEqProofs (disch := first | exact TrueB.mk rfl | omega) only [go_sem, g1, hsl, h7]
        exact again_mk ⟨i + 1, by omega, by omega, rfl⟩
  · refine ⟨-1, ⟨fun h => by omega, fun h => absurd h hx⟩, fun m m' => ?_⟩
    obtain ⟨p, e⟩ := x
    unfold sV
    refine Runs.of Tryd.func52 rfl (by simp [Tryd.ntmps52]) ?_
    simp (maxSteps := 400000) -dsimp -implicitDefEqProofs (disch := first | exact TrueB.mk rfl | omega) only [go_sem, Tryd.ntmps52, hsl]
    refine wpLoop_ind (α := Nat)
      (fun i => ⟨[(0, .pure m (.sl (stepsV l))), (3, .ptr 304 0), (7, .pure true (.int .i64 (l.length : Nat))), (8, .pure true (.int .i64 i))], [(304, .box [.pure m' (.int .i64 p), .pure m' (.int .i64 e)])]⟩)
      (fun i => i ≤ l.length) (fun i => l.length - i) ?_ 0 (by omega) rfl
    rintro i hi
    rcases Classical.em (i < l.length) with hlt | hge
    · have g1 := steps_at hlt
      have hn : ¬ l[i] = (p, e) := fun h => hx (h ▸ List.getElem_mem hlt)
      generalize l[i] = y at *
      obtain ⟨a, b⟩ := y
      simp only at *
      rcases Classical.em (p = a) with h4 | h4
      · have h5 : ¬ e = b := fun h => hn (by rw [h4, h])
        subst h4
        have h7 : (e == b) = false := by simpa using h5
        simp (maxSteps := 400000) -dsimp -implicitDefEqProofs (disch := first | exact TrueB.mk rfl | omega) only [go_sem, g1, hsl, beq_same, h7]
        exact again_mk ⟨i + 1, by omega, by omega, rfl⟩
      · have h7 : (p == a) = false := by simpa using h4
        simp (maxSteps := 400000) -dsimp -implicitDefEqProofs (disch := first | exact TrueB.mk rfl | omega) only [go_sem, g1, hsl, h7]
        exact again_mk ⟨i + 1, by omega, by omega, rfl⟩
    · simp (maxSteps := 400000) -dsimp -implicitDefEqProofs (disch := first | exact TrueB.mk rfl | omega) only [go_sem, hsl]
      first | exact end_int rfl rfl | done

set_option maxHeartbeats 4000000 in
theorem containsS (l : List S2) (x : S2) (hl : l.length ≤ 100000) (m m' : Bool) : Runs Tryd.prog env 41 [.pure m (.sl (stepsV l)), .pure m' (sV x)] [] (.pure true (.bool (decide (x ∈ l)))) [] := by
  obtain ⟨n, hn, c⟩ := indexS l x hl
  obtain ⟨p, e⟩ := x
  unfold sV at *
  by_cases hx : ((p, e) : S2) ∈ l
  · have h0 := hn.2 hx
    rw [decide_eq_true hx]
    refine Runs.of Tryd.func41 rfl (by simp [Tryd.ntmps41]) ?_
    simp (maxSteps := 400000) -dsimp -implicitDefEqProofs (disch := first | exact TrueB.mk rfl | omega) only [go_sem, Tryd.ntmps41]
    first | refine wpAct_call0 (c _ _) rfl rfl rfl rfl rfl rfl rfl rfl ?_ | done
    simp (maxSteps := 400000) -dsimp -implicitDefEqProofs (disch := first | exact TrueB.mk rfl | omega) only [go_sem]
    first | exact end_bool rfl rfl | done
  · have h0 : ¬ 0 ≤ n := fun h => hx (hn.1 h)
    rw [decide_eq_false hx]
    refine Runs.of Tryd.func41 rfl (by simp [Tryd.ntmps41]) ?_
    simp (maxSteps := 400000) -dsimp -implicitDefEqProofs (disch := first | exact TrueB.mk rfl | omega) only [go_sem, Tryd.ntmps41]
    first | refine wpAct_call0 (c _ _) rfl rfl rfl rfl rfl rfl rfl rfl ?_ | done
    simp (maxSteps := 400000) -dsimp -implicitDefEqProofs (disch := first | exact TrueB.mk rfl | omega) only [go_sem]
    first | exact end_bool rfl rfl | done

set_option maxHeartbeats 4000000 in
theorem conf2_any (x y : UInt8) (m m' : Bool) : Runs Tryd.prog env 22 [.pure m (.int .u8 x.toNat), .pure m' (.int .u8 y.toNat)] [] (.pure true (confV (1 + (x.toNat % 2 : Nat)) (1 + (y.toNat % 2 : Nat)) 1)) [] := by
  have hx := x.toNat_lt
  have hy := y.toNat_lt
  have w1 : IntKind.i64.wrap (x.toNat : Int) = (x.toNat : Int) := by rw [wrap_i64 (by omega) (by omega)]
  have w2 : IntKind.i64.wrap (y.toNat : Int) = (y.toNat : Int) := by rw [wrap_i64 (by omega) (by omega)]
  have w3 : IntKind.i64.wrap (1 + ((x.toNat % 2 : Nat) : Int)) = 1 + ((x.toNat % 2 : Nat) : Int) := by rw [wrap_i64 (by omega) (by omega)]
  have w4 : IntKind.i64.wrap (1 + ((y.toNat % 2 : Nat) : Int)) = 1 + ((y.toNat % 2 : Nat) : Int) := by rw [wrap_i64 (by omega) (by omega)]
  unfold confV
  refine Runs.of Tryd.func22 rfl (by simp [Tryd.ntmps22]) ?_
  simp (maxSteps := 400000) -dsimp -implicitDefEqProofs (disch := first | exact TrueB.mk rfl | omega) only [go_sem, Tryd.ntmps22, w1, w2, w3, w4, tmod_nat]
  first | exact rfl | done

/-! ### the probe, plainly -/
def smallB : Bool := rowsT.all fun r => r.all fun o => match o with
  | none => true
  | some p => decide (p.1 ≤ 9)
theorem small_ok : smallB = true := by kernel_rfl
theorem cell_small {s e : Int} {n : Nat} {l : List Nat} (h : cellI s e = some (n, l)) : n ≤ 9 := by
  unfold cellI at h
  split at h
  · unfold cellT at h
    have h2 : ∃ r ∈ rowsT, some (n, l) ∈ r := by
      cases h3 : rowsT[s.toNat]? with
      | none => rw [h3] at h; simp at h
      | some r =>
        rw [h3] at h
        simp only [Option.getD_some] at h
        refine ⟨r, List.mem_of_getElem? h3, ?_⟩
        cases h4 : r[e.toNat]? with
        | none => rw [h4] at h; simp at h
        | some o =>
          rw [h4] at h
          simp only [Option.getD_some] at h
          subst h
          exact List.mem_of_getElem? h4
    obtain ⟨r, hr, hm⟩ := h2
    have := List.all_eq_true.1 (List.all_eq_true.1 small_ok r hr) _ hm
    simpa using this
  · cases h
theorem step_small {s e r : Int} {n : Nat} {l : List Nat} (h : stepOut s e r = some (n, l)) : n ≤ 9 := by
  unfold stepOut at h
  split at h
  · cases h
  · rename_i p hp
    split at h
    · cases h
    · cases h
      exact cell_small hp
theorem hap_small {cf tm : Int} {x x' : L3} {e : Int} (h : hapL cf tm x e = some x') : 0 ≤ x'.1 ∧ x'.1 ≤ 9 := by
  obtain ⟨n, l, h1, _, rfl⟩ := hapL_yes h
  have := step_small h1
  simp only
  omega
theorem foll_one (cf tm : Int) (x' y z : L3) (c : C3) (v : Int) : (follL cf tm x' y z c v).1.1 = x' := by
  unfold follL
  split <;> rfl
theorem step_in {cf tm : Int} {b b' : Bn} {p e : Int} {l : List C3} {t : Bool × Bool × Bool} (h0 : 0 ≤ b.1.1 ∧ b.1.1 ≤ 9) (h : stepL cf tm b p e = some (b', l, t)) : 0 ≤ b'.1.1 ∧ b'.1.1 ≤ 9 := by
  unfold stepL at h
  split at h
  · split at h
    · split at h
      · cases h
      · rename_i x' hx
        split at h
        · cases h; exact hap_small hx
        · have h1 := foll_one cf tm x' b.2.1 b.2.2 (49185, b.1.1, e) (if openL x' then 1 else 2)
          rw [Option.some.inj h] at h1
          simp only at h1
          rw [h1]
          exact hap_small hx
    · cases h
  · split at h
    · split at h
      · split at h
        · cases h
        · cases h; exact h0
      · cases h
    · split at h
      · split at h
        · split at h
          · cases h
          · cases h; exact h0
        · cases h
      · cases h
theorem play_in {cf tm : Int} : ∀ (l : List S2) (b : Bn) (w : W3) (L : List C3) {b' : Bn} {w' : W3} {L' : List C3}, (0 ≤ b.1.1 ∧ b.1.1 ≤ 9) → playL cf tm l b w L = some (b', w', L') → 0 ≤ b'.1.1 ∧ b'.1.1 ≤ 9 := by
  intro l
  induction l with
  | nil =>
    intro b w L b' w' L' hb h
    simp only [playL, Option.some.injEq, Prod.mk.injEq] at h
    obtain ⟨rfl, rfl, rfl⟩ := h
    exact hb
  | cons x t ih =>
    intro b w L b' w' L' hb h
    simp only [playL] at h
    split at h
    · cases h
    · rename_i b1 l1 t0 t1 t2 hs
      exact ih _ _ _ (step_in hb hs) h
def probeB : Bool := (List.range 10).all fun s => (cellT s 13).isSome == decide (2 ≤ s)
theorem probe_ok : probeB = true := by kernel_rfl
theorem probe_can (cf tm : Int) {b : Bn} (h : 0 ≤ b.1.1 ∧ b.1.1 ≤ 9) : (decide (((49185, 13) : S2) ∈ canL cf tm b)) = decide (2 ≤ b.1.1) := by
  have h1 := List.all_eq_true.1 probe_ok b.1.1.toNat (List.mem_range.2 (by omega))
  rw [beq_iff_eq] at h1
  have h2 : ((49185, 13) : S2) ∈ all48 := by decide
  have h3 : canB cf tm b (49185, 13) = (cellT b.1.1.toNat 13).isSome := by
    unfold canB stepL
    rw [if_pos rfl]
    have hm : mayP 0 (openL b.1) b.1.2.2 13 = true := by simp [mayP]
    have hc : cellI b.1.1 13 = cellT b.1.1.toNat 13 := by unfold cellI; rw [if_pos (by omega)]; rfl
    rw [hm, if_pos rfl]
    unfold hapL stepOut
    rw [hc]
    cases cellT b.1.1.toNat 13 with
    | none => rfl
    | some p =>
      obtain ⟨n, l⟩ := p
      simp only
      rw [if_neg (by omega)]
      simp only
      split <;> rfl
  unfold canL
  rw [Bool.eq_iff_iff, decide_eq_true_eq, List.mem_filter, h3, h1, decide_eq_true_eq, decide_eq_true_eq]
  constructor
  · rintro ⟨_, h⟩; omega
  · intro h; exact ⟨h2, by omega⟩

/-- A call that gives a new row's beginning. -/
theorem wpAct_callH {P : Program} {E : Env} {base : Nat} {o : Oper} {ev : Operand → SV} {look : Nat → Option Ob} {K : Eff → Prop} {c : Call} {f : Operand} {g : FuncId} {caps av : List SV} {δ : Store} {z lim n q : Nat} {xs : List PV}
    (hr : Runs P E g av [] (.hd 0 n q) [(0, .row false z lim xs)]) (ho : o.op = .call c) (hc : c.callee = .value f) (hf : ev f = .clo g caps) (hi : E.intr g = none) (ha : argV base (E.byRef g) look (c.args.toList.map ev ++ caps) = some (av, δ)) (hn : refsL av = [])
    (hk : freshKeys look (base + 16 * (o.dst.getD 0)) 16 = true)
    (h : K { res := .hd (base + 16 * (o.dst.getD 0)) n q, wr := (base + 16 * (o.dst.getD 0), .row false z lim xs) :: δ, rd := some ((List.range 16).map (base + 16 * (o.dst.getD 0) + ·) ++ refsL (c.args.toList.map ev ++ caps)) }) : wpAct P E base o ev look K := by
  refine wpAct_call hr ho hc hf hi ha hn (by simp [hk]) ?_
  have e1 : (fun i => ((List.range ([(0, Ob.row false z lim xs)] : Store).length).map (base + 16 * (o.dst.getD 0) + ·))[i]?) = fun i => if i = 0 then some (base + 16 * (o.dst.getD 0)) else none := by
    funext i
    cases i with
    | zero => simp [List.range_succ]
    | succ i => simp [List.range_succ]
  rw [e1]
  simpa [backAll, newO, V.get, renO, List.range_succ, newV, ren] using h

theorem argV_h {base : Nat} {br : Bool} {look : Nat → Option Ob} {k n q : Nat} {r l : List SV} {δ : Store} {m : Bool} {z lim : Nat} {xs : List PV} (hk : look k = some (.row m z lim xs)) (hn : n = xs.length) (hq : q ≤ n)
    (hr : argV base br (over [(k, .row m z (max lim q) xs)] look) r = some (l, δ)) : argV base br look (.hd k n q :: r) = some (.pure false (.sl (xs.take q)) :: l, δ ++ [(k, .row m z (max lim q) xs)]) := by
  subst hn
  rw [argV, if_pos (by simp [isRowV])]
  simp only [V.freeze, hk]
  rw [if_pos ⟨trivial, hq⟩]
  simp only [hr]

theorem allSc_st (l : List S2) : allScalar (stepsV l) = true := by
  induction l with
  | nil => rfl
  | cons c t ih => exact ih
theorem clone_st {l : List S2} {look : Nat → Option Ob} {nk : Nat} {m : Bool} (hk : look nk = none) (hl : l.length ≤ 100000) : cloneW 2 16 [.pure m (.sl (stepsV l))] look nk = some { res := .row nk l.length, wr := [(nk, .row true 2 0 (stepsV l))], rd := some [nk] } := by
  have h1 := allW_steps l
  have h2 := allSc_st l
  have h3 := stepsV_length l
  unfold cloneW
  simp only [isStrV, readS, h1, h2, h3, hk, if_true, Bool.or_true, Option.isNone_none]
  rw [if_neg (by simp), if_pos ⟨trivial, by omega⟩]
def probeL (b : Bn) (l : List S2) : List S2 := if 2 ≤ b.1.1 then l ++ [(49185, 13)] else l

set_option maxHeartbeats 16000000 in
theorem Probe_any {cf tm : Int} (h1 : 1 ≤ cf ∧ cf ≤ 255) (h2 : 1 ≤ tm ∧ tm ≤ 255) (l : List S2) (hl : l.length ≤ 1000) {b : Bn} {w : W3} {A : List C3} (hp : playL cf tm l zeroB (true, true, true) [] = some (b, w, A)) (m m' : Bool) :
    Runs Tryd.prog env 26 [.pure m (confV cf tm 1), .pure m' (.sl (stepsV l))] [] (.row 0 (probeL b l).length) [(0, .row true 2 0 (stepsV (probeL b l)))] := by
  have ca := fun m m' => Can_any h1 h2 l (by omega) m m'
  rw [hp] at ca
  simp only [CanV, CanS] at ca
  have hin := play_in l zeroB (true, true, true) [] (by decide) hp
  have hpr := probe_can cf tm hin
  have hkb : (canL cf tm b).length ≤ 48 := Nat.le_trans (List.length_filter_le _ _) (by rw [all48_length]; omega)
  have ct := fun m m' => containsS (canL cf tm b) (49185, 13) (by omega) m m'
  rw [hpr] at ct
  generalize canL cf tm b = k at *
  have hkl := stepsV_length k
  have hKl : 48 = (stepsV k ++ List.replicate (48 - k.length) (PV.agg [.int .i64 0, .int .i64 0])).length := by rw [List.length_append, List.length_replicate, hkl]; omega
  have htk : (stepsV k ++ List.replicate (48 - k.length) (PV.agg [.int .i64 0, .int .i64 0])).take k.length = stepsV k := by rw [← hkl, List.take_left]
  rw [← htk] at ct
  generalize stepsV k ++ List.replicate (48 - k.length) (PV.agg [.int .i64 0, .int .i64 0]) = K at *
  have hsl := stepsV_length l
  have e4 : sV (49185, 13) = .agg [.int .i64 49185, .int .i64 13] := rfl
  rw [e4] at ct
  unfold confV at *
  unfold probeL
  by_cases h2b : 2 ≤ b.1.1
  · rw [decide_eq_true h2b] at ct
    rw [if_pos h2b]
    have es : stepsV (l ++ [(49185, 13)]) = stepsV l ++ [.agg [.int .i64 49185, .int .i64 13]] := by simp [stepsV, sV]
    rw [es, List.length_append]
    refine Runs.of Tryd.func26 rfl (by simp [Tryd.ntmps26]) ?_
    simp (maxSteps := 400000) -dsimp -implicitDefEqProofs (disch := first | exact TrueB.mk rfl | omega) only [go_sem, Tryd.ntmps26]
    first | refine wpAct_intr rfl rfl rfl rfl (clone_st rfl (by omega)) ?_ | done
    simp (maxSteps := 400000) -dsimp -implicitDefEqProofs (disch := first | exact TrueB.mk rfl | omega) only [go_sem]
    refine wpAct_callH (ca _ _) rfl rfl rfl rfl (argV_p rfl (argV_p rfl argV_nil)) rfl rfl ?_
    simp (maxSteps := 400000) -dsimp -implicitDefEqProofs (disch := first | exact TrueB.mk rfl | omega) only [go_sem]
    first | refine wpAct_callF (ct _ _) rfl rfl rfl rfl (argV_h rfl hKl hkb (argV_p rfl argV_nil)) rfl rfl rfl rfl ?_ | done
    simp (maxSteps := 400000) -dsimp -implicitDefEqProofs (disch := first | exact TrueB.mk rfl | omega) only [go_sem, hsl, Bool.or_true]
    have hlen : l.length + 1 = (stepsV l ++ [PV.agg [.int .i64 49185, .int .i64 13]]).length := by rw [List.length_append, hsl]; rfl
    have hsc : allScalar (stepsV l ++ [PV.agg [.int .i64 49185, .int .i64 13]]) = true := by rw [← es]; exact allSc_st _
    first | exact end_rowC rfl rfl hlen hsc | done
  · rw [decide_eq_false h2b] at ct
    rw [if_neg h2b]
    refine Runs.of Tryd.func26 rfl (by simp [Tryd.ntmps26]) ?_
    simp (maxSteps := 400000) -dsimp -implicitDefEqProofs (disch := first | exact TrueB.mk rfl | omega) only [go_sem, Tryd.ntmps26]
    first | refine wpAct_intr rfl rfl rfl rfl (clone_st rfl (by omega)) ?_ | done
    simp (maxSteps := 400000) -dsimp -implicitDefEqProofs (disch := first | exact TrueB.mk rfl | omega) only [go_sem]
    refine wpAct_callH (ca _ _) rfl rfl rfl rfl (argV_p rfl (argV_p rfl argV_nil)) rfl rfl ?_
    simp (maxSteps := 400000) -dsimp -implicitDefEqProofs (disch := first | exact TrueB.mk rfl | omega) only [go_sem]
    first | refine wpAct_callF (ct _ _) rfl rfl rfl rfl (argV_h rfl hKl hkb (argV_p rfl argV_nil)) rfl rfl rfl rfl ?_ | done
    simp (maxSteps := 400000) -dsimp -implicitDefEqProofs (disch := first | exact TrueB.mk rfl | omega) only [go_sem, hsl]
    first | exact end_rowC rfl rfl hsl.symm (allSc_st l) | done

set_option maxHeartbeats 64000000 in
theorem suiteProbes_runs (x y : UInt8) (l : List S2) (hl0 : l.length ≤ 140737488351232) : Runs Tryd.prog env 8 [.pure false (.int .u8 x.toNat), .pure false (.int .u8 y.toNat), .pure false (.sl (stepsV l))] [] (.pure true (.bool true)) [] := by
  have hcf : 1 ≤ 1 + ((x.toNat % 2 : Nat) : Int) ∧ 1 + ((x.toNat % 2 : Nat) : Int) ≤ 2 := by omega
  have htm : 1 ≤ 1 + ((y.toNat % 2 : Nat) : Int) ∧ 1 + ((y.toNat % 2 : Nat) : Int) ≤ 2 := by omega
  have cc := fun m m' => conf2_any x y m m'
  generalize 1 + ((x.toNat % 2 : Nat) : Int) = cf at *
  generalize 1 + ((y.toNat % 2 : Nat) : Int) = tm at *
  have h1 : 1 ≤ cf ∧ cf ≤ 255 := by omega
  have h2 : 1 ≤ tm ∧ tm ≤ 255 := by omega
  have hsl := stepsV_length l
  rcases Classical.em (l.length > 100) with hbig | hq
  · refine Runs.of Tryd.func8 rfl (by simp [Tryd.ntmps8]) ?_
    simp (maxSteps := 400000) -dsimp -implicitDefEqProofs (disch := first | exact TrueB.mk rfl | omega) only [go_sem, Tryd.ntmps8]
    first | refine wpAct_call0 (awake28_ok) rfl rfl rfl rfl rfl rfl rfl rfl ?_ | done
    simp (maxSteps := 400000) -dsimp -implicitDefEqProofs (disch := first | exact TrueB.mk rfl | omega) only [go_sem, hsl]
    first | refine wpAct_call0 (awake28_ok) rfl rfl rfl rfl rfl rfl rfl rfl ?_ | done
    simp (maxSteps := 400000) -dsimp -implicitDefEqProofs (disch := first | exact TrueB.mk rfl | omega) only [go_sem]
    first | exact end_bool rfl rfl | done
  · obtain ⟨qf, pr⟩ := refS h1 h2 l (by omega)
    have pb := fun b w A hp m m' => Probe_any h1 h2 l (by omega) (b := b) (w := w) (A := A) hp m m'
    generalize playL cf tm l zeroB (true, true, true) [] = R at *
    have haw := allW_steps l
    have hsc := allSc_st l
    cases R with
    | none =>
      simp only [refV, playS] at pr
      have nw := fun q => newQ3 q false zeroB 0
      clear pb
      unfold confV benchV at *
      refine Runs.of Tryd.func8 rfl (by simp [Tryd.ntmps8]) ?_
      simp (maxSteps := 400000) -dsimp -implicitDefEqProofs (disch := first | exact TrueB.mk rfl | omega) only [go_sem, Tryd.ntmps8]
      first | refine wpAct_call0 (awake28_ok) rfl rfl rfl rfl rfl rfl rfl rfl ?_ | done
      simp (maxSteps := 400000) -dsimp -implicitDefEqProofs (disch := first | exact TrueB.mk rfl | omega) only [go_sem, hsl]
      first | refine wpAct_call0 (cc _ _) rfl rfl rfl rfl rfl rfl rfl rfl ?_ | done
      simp (maxSteps := 400000) -dsimp -implicitDefEqProofs (disch := first | exact TrueB.mk rfl | omega) only [go_sem]
      first | refine wpAct_callG (pr _ _) rfl rfl rfl rfl rfl rfl rfl rfl rfl ?_ | done
      simp (maxSteps := 400000) -dsimp -implicitDefEqProofs (disch := first | exact TrueB.mk rfl | omega) only [go_sem]
      first | exact end_bool rfl rfl | done
    | some r =>
      obtain ⟨b, w, A⟩ := r
      have pb := pb b w A rfl
      simp only [refV, playS] at pr
      have nw := fun q => newQ3 q true b A.length
      unfold confV benchV probeL at *
      by_cases h2b : 2 ≤ b.1.1
      · simp only [if_pos h2b] at pb
        have hsl2 := stepsV_length (l ++ [((49185, 13) : S2)])
        have ss := fun m m' => sameS_any (l ++ [((49185, 13) : S2)]) (l ++ [((49185, 13) : S2)]) (by simp; omega) (by simp; omega) m m'
        rw [decide_eq_true rfl] at ss
        have es : stepsV (l ++ [((49185, 13) : S2)]) = stepsV l ++ [.agg [.int .i64 49185, .int .i64 13]] := by simp [stepsV, sV]
        have e1 : (l ++ [((49185, 13) : S2)]).length = l.length + 1 := by simp
        rw [e1] at pb hsl2
        rw [es] at pb ss hsl2
        refine Runs.of Tryd.func8 rfl (by simp [Tryd.ntmps8]) ?_
        simp (maxSteps := 400000) -dsimp -implicitDefEqProofs (disch := first | exact TrueB.mk rfl | omega) only [go_sem, Tryd.ntmps8]
        first | refine wpAct_call0 (awake28_ok) rfl rfl rfl rfl rfl rfl rfl rfl ?_ | done
        simp (maxSteps := 400000) -dsimp -implicitDefEqProofs (disch := first | exact TrueB.mk rfl | omega) only [go_sem, hsl]
        first | refine wpAct_call0 (cc _ _) rfl rfl rfl rfl rfl rfl rfl rfl ?_ | done
        simp (maxSteps := 400000) -dsimp -implicitDefEqProofs (disch := first | exact TrueB.mk rfl | omega) only [go_sem]
        refine wpAct_callG (pr _ _) rfl rfl rfl rfl rfl rfl (nw _) rfl rfl ?_
        simp (maxSteps := 400000) -dsimp -implicitDefEqProofs (disch := first | exact TrueB.mk rfl | omega) only [go_sem]
        first | refine wpAct_callG (pb _ _) rfl rfl rfl rfl rfl rfl rfl rfl rfl ?_ | done
        simp (maxSteps := 400000) -dsimp -implicitDefEqProofs (disch := first | exact TrueB.mk rfl | omega) only [go_sem, hsl, haw, hsc, h2b, Bool.or_true]
        first | refine wpAct_callF (ss _ _) rfl rfl rfl rfl (argV_r rfl hsl2.symm (argV_r rfl hsl2.symm argV_nil)) rfl rfl rfl rfl ?_ | done
        simp (maxSteps := 400000) -dsimp -implicitDefEqProofs (disch := first | exact TrueB.mk rfl | omega) only [go_sem]
        first | exact end_bool rfl rfl | done
      · simp only [if_neg h2b] at pb
        have ss := fun m m' => sameS_any l l (by omega) (by omega) m m'
        rw [decide_eq_true rfl] at ss
        refine Runs.of Tryd.func8 rfl (by simp [Tryd.ntmps8]) ?_
        simp (maxSteps := 400000) -dsimp -implicitDefEqProofs (disch := first | exact TrueB.mk rfl | omega) only [go_sem, Tryd.ntmps8]
        first | refine wpAct_call0 (awake28_ok) rfl rfl rfl rfl rfl rfl rfl rfl ?_ | done
        simp (maxSteps := 400000) -dsimp -implicitDefEqProofs (disch := first | exact TrueB.mk rfl | omega) only [go_sem, hsl]
        first | refine wpAct_call0 (cc _ _) rfl rfl rfl rfl rfl rfl rfl rfl ?_ | done
        simp (maxSteps := 400000) -dsimp -implicitDefEqProofs (disch := first | exact TrueB.mk rfl | omega) only [go_sem]
        refine wpAct_callG (pr _ _) rfl rfl rfl rfl rfl rfl (nw _) rfl rfl ?_
        simp (maxSteps := 400000) -dsimp -implicitDefEqProofs (disch := first | exact TrueB.mk rfl | omega) only [go_sem]
        first | refine wpAct_callG (pb _ _) rfl rfl rfl rfl rfl rfl rfl rfl rfl ?_ | done
        simp (maxSteps := 400000) -dsimp -implicitDefEqProofs (disch := first | exact TrueB.mk rfl | omega) only [go_sem, hsl, haw, hsc, h2b, Bool.or_true]
        first | refine wpAct_callF (ss _ _) rfl rfl rfl rfl (argV_r rfl hsl.symm (argV_r rfl hsl.symm argV_nil)) rfl rfl rfl rfl ?_ | done
        simp (maxSteps := 400000) -dsimp -implicitDefEqProofs (disch := first | exact TrueB.mk rfl | omega) only [go_sem]
        first | exact end_bool rfl rfl | done

end Go.Proofs.YticdhmcbooabaaaDoor
set_option linter.unusedVariables false
set_option maxRecDepth 100000
namespace Go.Proofs.YticdhmcbooabaaaDoor.suiteProbes
open Go Go.Proofs.YticdhmcbooabaaaDoor.V
open Go.ChangeShapes Go.WideShapes Go.ChangeAt Go.RowKit

theorem law : ∀ xs : List PV, All2 (WfV Tryd.prog 6) Tryd.f8.params.toList xs → ∃ n m S1, callF Tryd.prog env n 8 (xs.map (.pure false)) [] = some (.pure m (.bool true), S1) := by
  intro xs h
  have h' : All2 (WfV Tryd.prog 6) [5, 5, 22] xs := h
  cases h' with
  | cons h1 t1 =>
    cases t1 with
    | cons h2 t2 =>
      cases t2 with
      | cons h3 t3 =>
        cases t3
        obtain ⟨a, rfl⟩ := wfv_u8 h1
        obtain ⟨b, rfl⟩ := wfv_u8 h2
        obtain ⟨l, rfl, hl⟩ := wfv_steps h3
        obtain ⟨n, hn⟩ := suiteProbes_runs a b l hl
        exact ⟨n, _, _, hn⟩

set_option maxRecDepth 100000 in
theorem lifted (os : Os) (started : os.Started) (H : Type) (enc : TypeId × Value → H) :
    ReturnsInHanded {} Tryd.checked os 8 .any (fun w args => (Rows.suiteProbesSpec.pre enc Tryd.prog Tryd.f8 [] false w args ∧ laidMetH Tryd.prog Rows.suiteProbesRow.laid w) ∧ sizedMet enc Tryd.prog Tryd.f8 (OpenSpec.ofChange Rows.suiteProbesSpec) false w args)
      (Rows.suiteProbesSpec.post enc Tryd.prog Tryd.f8 false true false false) := by
  refine returnsInHanded_of_change_and (C := Tryd.checked) (X := fun w _ => laidMetH Tryd.prog Rows.suiteProbesRow.laid w) (fun _ _ _ hh h => h.of_heap hh) own started (by kernel_rfl) Tryd.func8
    (ChangeSpec.witness_shaped (enc := enc) (C := Tryd.checked) (os := os) (X := fun w _ => laidMetH Tryd.prog Rows.suiteProbesRow.laid w) false (World.laidAll Tryd.prog os Rows.suiteProbesRow.laid) #[.int .u8 0, .int .u8 0, .slice none 0 0] 8 (World.laidAll_os _ _ _)
      (World.shaped_of_ZipB (by kernel_rfl) (by kernel_rfl)) (by kernel_rfl) (by kernel_rfl) (by kernel_rfl)
      (by rw [MakeChecks.laidMetH_plain _ _ _ (by kernel_rfl)]; exact laidMet_laidAll _ (by kernel_rfl) (by kernel_rfl))) ?_
  intro W base args ds gs before hval hW _ hsz hX _
  refine law_contractG (N := 6) (rt := 4) envAll laidOut rfl rfl Tryd.underlying4 (by kernel_rfl) (by kernel_rfl) ?_ law W (glob_ok hX) base args ds gs before hval hW hsz
  intro ds hl
  match ds, hl with
  | [d0, d1, d2], _ => rfl

theorem j0 : Rows.suiteProbesRow.wf (OpenSpec.ofChange Rows.suiteProbesSpec) = true := by kernel_rfl
theorem j3 : Tryd.f8.params.all (Tryd.prog.readableRec ·) = true := by kernel_rfl
theorem j4 : namedTie Tryd.prog Rows.suiteProbesRow.named Rows.suiteProbesSpec.vars = true := by kernel_rfl
theorem j9 : (Rows.suiteProbesRow.inPlace == Tryd.prog.inPlace 8) = true := by kernel_rfl
theorem j10 : (Rows.suiteProbesRow.unfollowed == Tryd.prog.unfollowed 8) = true := by kernel_rfl
theorem j11 : (Rows.suiteProbesRow.recurses == Tryd.prog.recurses 8) = true := by kernel_rfl
theorem j12 : (Rows.suiteProbesRow.named == Tryd.prog.varsNamed 8) = true := by kernel_rfl
theorem hfn : Tryd.pinned.checked.prog.funcNamed Rows.suiteProbesRow.func = some 8 := by kernel_rfl
theorem joined : joinedFacts Tryd.pinned.checked.prog 8 Tryd.f8 Rows.suiteProbesSpec Rows.suiteProbesRow = true := by
  show joinedFacts Tryd.prog 8 Tryd.f8 Rows.suiteProbesSpec Rows.suiteProbesRow = true
  unfold joinedFacts
  simp only [Bool.and_eq_true]
  exact ⟨⟨⟨⟨⟨⟨⟨⟨⟨⟨⟨⟨⟨⟨⟨⟨⟨⟨⟨⟨⟨⟨⟨⟨⟨⟨⟨⟨⟨⟨⟨j0, y_laid⟩, y_maps⟩, j3⟩, j4⟩, by kernel_rfl⟩, y_stops⟩, by kernel_rfl⟩, y_knobs⟩, j9⟩, j10⟩, j11⟩, j12⟩, by kernel_rfl⟩, by kernel_rfl⟩, by kernel_rfl⟩, by kernel_rfl⟩, by kernel_rfl⟩, by kernel_rfl⟩, by kernel_rfl⟩, by kernel_rfl⟩, by kernel_rfl⟩, by rw [y_plain]; kernel_rfl⟩, by kernel_rfl⟩, y_heard⟩, y_enter⟩, by rw [y_lifts]; kernel_rfl⟩, by rw [y_make]; kernel_rfl⟩, by kernel_rfl⟩, by kernel_rfl⟩, by kernel_rfl⟩, by kernel_rfl⟩

theorem over : Rows.suiteProbesRow.holds Tryd.pinned (OpenSpec.ofChange Rows.suiteProbesSpec) :=
  OpenClaim.holds_of_wide 8 Tryd.f8 rfl rfl rfl rfl rfl rfl rfl ⟨rfl, rfl, rfl, rfl, rfl⟩ rfl rfl rfl rfl rfl hfn Tryd.func8 joined
    (of_decide_eq_true (by kernel_rfl)) (by unfold Func.isWrapper; first | (rw [if_pos (by decide +kernel)]; kernel_rfl) | (rw [if_neg (by decide +kernel)]; exact ⟨rfl, rfl⟩))
    (fun os started H enc _ => lifted os started H enc)
end Go.Proofs.YticdhmcbooabaaaDoor.suiteProbes
namespace Go.Proofs.YticdhmcbooabaaaDoor
theorem suiteProbes_holds : Rows.SuiteProbesCardSaid :=
  Claim7.holds_tied_plain_at .later [] [.data] true (true, "937d64d9f49e873a66af4acc49631d708eba1841196fb7f33488a732296e2ac2") false suiteProbes.over (fun _ h => by cases h) (by kernel_rfl) (fun _ h => by cases h) suiteProbes_row_tie rfl ⟨rfl, rfl⟩ (by kernel_rfl) rfl
    (fun f fn hf hfn => by
      obtain rfl : f = 8 := Option.some.inj ((show Tryd.prog.funcNamed "umpire/umpirelaw28.SuiteProbes" = some 8 by kernel_rfl).symm.trans hf) |>.symm
      obtain rfl : fn = Tryd.f8 := (Option.some.inj (Tryd.func8.symm.trans hfn)).symm
      exact ⟨by kernel_rfl, fun j t ht => by
        have ht' : #[5, 5, 22][j]? = some t := ht
        have hm : t ∈ [5, 5, 22] := by simpa using Array.mem_of_getElem? ht'
        have hall : ([5, 5, 22].all fun u => !Tryd.prog.wantsStandIn u) = true := by kernel_rfl
        exact (show Tryd.prog.wantsStandIn t = false by simpa using List.all_eq_true.1 hall t hm)⟩)
    (by kernel_rfl)
#print axioms suiteProbes_holds
end Go.Proofs.YticdhmcbooabaaaDoor

