/- YticdhmcbooabaaaDoorRZ: parts of the proof of CellsReaches. No claim. -/
import Derived.Test.YticdhmcbooabaaaDoorUA
import Derived.Test.YticdhmcbooabaaaDoorRY
import Derived.Test.YticdhmcbooabaaaDoorRA
import Derived.Test.YticdhmcbooabaaaDoorWB
import Derived.Test.YticdhmcbooabaaaDoorE
import Derived.MakeChecks
import Derived.LaidLaws
set_option linter.unusedVariables false
set_option linter.unusedSimpArgs false
set_option maxRecDepth 1000000
namespace Go.Proofs.YticdhmcbooabaaaDoor
open Go Go.Proofs.YticdhmcbooabaaaDoor.V

theorem reachL_of (cf tm : Int) (h1 : 1 ≤ cf ∧ cf ≤ 4) (h2 : 1 ≤ tm ∧ tm ≤ 4) : reachB cf tm (reachL tm) = true := by
  have q1 : cf = 1 ∨ cf = 2 ∨ cf = 3 ∨ cf = 4 := by omega
  have q2 : tm = 1 ∨ tm = 2 ∨ tm = 3 ∨ tm = 4 := by omega
  rcases q1 with rfl | rfl | rfl | rfl <;> rcases q2 with rfl | rfl | rfl | rfl
  · exact r_1_1
  · exact r_1_2
  · exact r_1_3
  · exact r_1_4
  · exact r_2_1
  · exact r_2_2
  · exact r_2_3
  · exact r_2_4
  · exact r_3_1
  · exact r_3_2
  · exact r_3_3
  · exact r_3_4
  · exact r_4_1
  · exact r_4_2
  · exact r_4_3
  · exact r_4_4
theorem reachL_length (tm : Int) : 300 < (reachL tm).length ∧ (reachL tm).length ≤ 1000 := by
  unfold reachL
  split
  · exact ⟨by decide, by decide⟩
  · exact ⟨by decide, by decide⟩
theorem reach_ok (cf tm : Int) (h1 : 1 ≤ cf ∧ cf ≤ 4) (h2 : 1 ≤ tm ∧ tm ≤ 4) (m : Bool) :
    Runs Tryd.prog env 19 [.pure m (confV cf tm 1)] [] (.row 0 (reachL tm).length) [(0, .row true 3 0 (cellsV (reachL tm)))] := by
  have hl := reachL_length tm
  exact reach_of (reachL_of cf tm h1 h2) (by omega) (by omega) (fun h => by rw [h] at hl; simp at hl) (by omega) m

theorem refReach_of {cf tm : Int} {G : List C3} (hb : reachB cf tm G = true) (h1 : 1 ≤ cf ∧ cf ≤ 255) (h2 : 1 ≤ tm ∧ tm ≤ 255) (hne : G ≠ []) (hl : G.length ≤ 100000) (m : Bool) :
    Runs Tryd.prog env 20 [.pure m (confV cf tm 1)] [] (.row 0 G.length) [(0, .row true 3 0 (cellsV G))] := by
  unfold reachB at hb
  split at hb
  · cases hb
  · rename_i F0 e0
    split at hb
    · cases hb
    · rename_i F1 e1
      split at hb
      · cases hb
      · rename_i F2 e2
        have u0 := outs_up _ e0
        have u1 := outs_up _ e1
        have u2 := outs_up _ e2
        simp only [List.length_nil] at u0 u1 u2
        exact refReach cf tm h1 h2 400 F0 F1 F2 G e0 e1 e2 (of_decide_eq_true hb) (by omega) (by omega) (by omega) hne hl (by omega) m
theorem refReach_ok (cf tm : Int) (h1 : 1 ≤ cf ∧ cf ≤ 4) (h2 : 1 ≤ tm ∧ tm ≤ 4) (m : Bool) :
    Runs Tryd.prog env 20 [.pure m (confV cf tm 1)] [] (.row 0 (reachL tm).length) [(0, .row true 3 0 (cellsV (reachL tm)))] := by
  have hl := reachL_length tm
  exact refReach_of (reachL_of cf tm h1 h2) (by omega) (by omega) (fun h => by rw [h] at hl; simp at hl) (by omega) m

set_option maxHeartbeats 16000000 in
theorem sameC_any (l k : List C3) (hl : l.length ≤ 100000) (hk : k.length ≤ 100000) (m m' : Bool) : Runs Tryd.prog env 15 [.pure m (.sl (cellsV l)), .pure m' (.sl (cellsV k))] [] (.pure true (.bool (decide (l = k)))) [] := by
  have hll := cellsV_length l
  have hkl := cellsV_length k
  refine Runs.of Tryd.func15 rfl (by simp [Tryd.ntmps15]) ?_
  rcases Classical.em (l.length = k.length) with hlen | hlen
  · have hI : ((l.length : Nat) : Int) = ((k.length : Nat) : Int) := by omega
    simp (maxSteps := 400000) -dsimp -implicitDefEqProofs (disch := first | exact TrueB.mk rfl | omega) only [go_sem, Tryd.ntmps15, hll, hkl, hlen]
    refine wpLoop_ind (α := Nat)
      (fun i => ⟨[(0, .pure m (.sl (cellsV l))), (1, .pure m' (.sl (cellsV k))), (5, .pure true (.int .i64 (i : Nat)))], []⟩)
      (fun i => i ≤ l.length ∧ l.take i = k.take i) (fun i => l.length - i) ?_ 0 ⟨by omega, rfl⟩ rfl
    rintro i ⟨hi, ht⟩
    rcases Classical.em (i < l.length) with hlt | hge
    · have hlt2 : i < k.length := by omega
      have g1 := cells_at hlt
      have g2 := cells_at hlt2
      have hd : l[i] = k[i] → l.take (i + 1) = k.take (i + 1) := fun e => by rw [← List.take_append_getElem hlt, ← List.take_append_getElem hlt2, ht, e]
      have hne : ¬ l[i] = k[i] → decide (l = k) = false := fun e => decide_eq_false fun h => e (by subst h; rfl)
      generalize l[i] = y at *
      generalize k[i] = x at *
      obtain ⟨a, b, c⟩ := y
      obtain ⟨p, s, e⟩ := x
      simp only at *
      rcases Classical.em (a = p) with h4 | h4
      · rcases Classical.em (b = s) with h5 | h5
        · rcases Classical.em (c = e) with h6 | h6
          · subst h4 h5 h6
            simp (maxSteps := 400000) -dsimp -implicitDefEqProofs (disch := first | exact TrueB.mk rfl | omega) only [go_sem, g1, g2, hll, hkl, beq_same]
            exact again_mk ⟨i + 1, ⟨by omega, hd rfl⟩, by omega, rfl⟩
          · subst h4 h5
            have h7 : (c == e) = false := by simpa using h6
            simp (maxSteps := 400000) -dsimp -implicitDefEqProofs (disch := first | exact TrueB.mk rfl | omega) only [go_sem, g1, g2, hll, hkl, beq_same, h7]
            first | exact end_bool rfl (hne (by simp [h6])).symm | done
        · subst h4
          have h7 : (b == s) = false := by simpa using h5
          simp (maxSteps := 400000) -dsimp -implicitDefEqProofs (disch := first | exact TrueB.mk rfl | omega) only [go_sem, g1, g2, hll, hkl, beq_same, h7]
          first | exact end_bool rfl (hne (by simp [h5])).symm | done
      · have h7 : (a == p) = false := by simpa using h4
        simp (maxSteps := 400000) -dsimp -implicitDefEqProofs (disch := first | exact TrueB.mk rfl | omega) only [go_sem, g1, g2, hll, hkl, beq_same, h7]
        first | exact end_bool rfl (hne (by simp [h4])).symm | done
    · have heq : l = k := by
        rw [List.take_of_length_le (by omega), List.take_of_length_le (by omega)] at ht
        exact ht
      simp (maxSteps := 400000) -dsimp -implicitDefEqProofs (disch := first | exact TrueB.mk rfl | omega) only [go_sem, hll, hkl]
      first | exact end_bool rfl (decide_eq_true heq).symm | done
  · have hI : ¬ ((l.length : Nat) : Int) = ((k.length : Nat) : Int) := by omega
    have hne : decide (l = k) = false := decide_eq_false fun h => hlen (by rw [h])
    simp (maxSteps := 400000) -dsimp -implicitDefEqProofs (disch := first | exact TrueB.mk rfl | omega) only [go_sem, Tryd.ntmps15, hll, hkl, hlen, hI]
    first | exact end_bool rfl hne.symm | done

set_option maxHeartbeats 16000000 in
theorem sameS_any (l k : List S2) (hl : l.length ≤ 100000) (hk : k.length ≤ 100000) (m m' : Bool) : Runs Tryd.prog env 16 [.pure m (.sl (stepsV l)), .pure m' (.sl (stepsV k))] [] (.pure true (.bool (decide (l = k)))) [] := by
  have hll := stepsV_length l
  have hkl := stepsV_length k
  refine Runs.of Tryd.func16 rfl (by simp [Tryd.ntmps16]) ?_
  rcases Classical.em (l.length = k.length) with hlen | hlen
  · have hI : ((l.length : Nat) : Int) = ((k.length : Nat) : Int) := by omega
    simp (maxSteps := 400000) -dsimp -implicitDefEqProofs (disch := first | exact TrueB.mk rfl | omega) only [go_sem, Tryd.ntmps16, hll, hkl, hlen]
    refine wpLoop_ind (α := Nat)
      (fun i => ⟨[(0, .pure m (.sl (stepsV l))), (1, .pure m' (.sl (stepsV k))), (5, .pure true (.int .i64 (i : Nat)))], []⟩)
      (fun i => i ≤ l.length ∧ l.take i = k.take i) (fun i => l.length - i) ?_ 0 ⟨by omega, rfl⟩ rfl
    rintro i ⟨hi, ht⟩
    rcases Classical.em (i < l.length) with hlt | hge
    · have hlt2 : i < k.length := by omega
      have g1 := steps_at hlt
      have g2 := steps_at hlt2
      have hd : l[i] = k[i] → l.take (i + 1) = k.take (i + 1) := fun e => by rw [← List.take_append_getElem hlt, ← List.take_append_getElem hlt2, ht, e]
      have hne : ¬ l[i] = k[i] → decide (l = k) = false := fun e => decide_eq_false fun h => e (by subst h; rfl)
      generalize l[i] = y at *
      generalize k[i] = x at *
      obtain ⟨a, b⟩ := y
      obtain ⟨p, s⟩ := x
      simp only at *
      rcases Classical.em (a = p) with h4 | h4
      · rcases Classical.em (b = s) with h5 | h5
        · subst h4 h5
          simp (maxSteps := 400000) -dsimp -implicitDefEqProofs (disch := first | exact TrueB.mk rfl | omega) only [go_sem, g1, g2, hll, hkl, beq_same]
          exact again_mk ⟨i + 1, ⟨by omega, hd rfl⟩, by omega, rfl⟩
        · subst h4
          have h7 : (b == s) = false := by simpa using h5
          simp (maxSteps := 400000) -dsimp -implicitDefEqProofs (disch := first | exact TrueB.mk rfl | omega) only [go_sem, g1, g2, hll, hkl, beq_same, h7]
          first | exact end_bool rfl (hne (by simp [h5])).symm | done
      · have h7 : (a == p) = false := by simpa using h4
        simp (maxSteps := 400000) -dsimp -implicitDefEqProofs (disch := first | exact TrueB.mk rfl | omega) only [go_sem, g1, g2, hll, hkl, beq_same, h7]
        first | exact end_bool rfl (hne (by simp [h4])).symm | done
    · have heq : l = k := by
        rw [List.take_of_length_le (by omega), List.take_of_length_le (by omega)] at ht
        exact ht
      simp (maxSteps := 400000) -dsimp -implicitDefEqProofs (disch := first | exact TrueB.mk rfl | omega) only [go_sem, hll, hkl]
      first | exact end_bool rfl (decide_eq_true heq).symm | done
  · have hI : ¬ ((l.length : Nat) : Int) = ((k.length : Nat) : Int) := by omega
    have hne : decide (l = k) = false := decide_eq_false fun h => hlen (by rw [h])
    simp (maxSteps := 400000) -dsimp -implicitDefEqProofs (disch := first | exact TrueB.mk rfl | omega) only [go_sem, Tryd.ntmps16, hll, hkl, hlen, hI]
    first | exact end_bool rfl hne.symm | done

set_option maxHeartbeats 64000000 in
theorem cellsReaches_runs (x y : UInt8) : Runs Tryd.prog env 4 [.pure false (.int .u8 x.toNat), .pure false (.int .u8 y.toNat)] [] (.pure true (.bool true)) [] := by
  have hcf : 1 ≤ 1 + ((x.toNat % 4 : Nat) : Int) ∧ 1 + ((x.toNat % 4 : Nat) : Int) ≤ 4 := by omega
  have htm : 1 ≤ 1 + ((y.toNat % 4 : Nat) : Int) ∧ 1 + ((y.toNat % 4 : Nat) : Int) ≤ 4 := by omega
  have cc := fun m m' => conf_any x y m m'
  generalize 1 + ((x.toNat % 4 : Nat) : Int) = cf at *
  generalize 1 + ((y.toNat % 4 : Nat) : Int) = tm at *
  have hr := fun m => reach_ok cf tm hcf htm m
  have hs := fun m => refReach_ok cf tm hcf htm m
  have hl := reachL_length tm
  generalize reachL tm = L at *
  have hll := cellsV_length L
  have sc := fun m m' => sameC_any L L (by omega) (by omega) m m'
  rw [decide_eq_true rfl] at sc
  unfold confV at *
  refine Runs.of Tryd.func4 rfl (by simp [Tryd.ntmps4]) ?_
  simp (maxSteps := 400000) -dsimp -implicitDefEqProofs (disch := first | exact TrueB.mk rfl | omega) only [go_sem, Tryd.ntmps4]
  first | refine wpAct_call0 (awake_ok) rfl rfl rfl rfl rfl rfl rfl rfl ?_ | done
  simp (maxSteps := 400000) -dsimp -implicitDefEqProofs (disch := first | exact TrueB.mk rfl | omega) only [go_sem]
  first | refine wpAct_call0 (cc _ _) rfl rfl rfl rfl rfl rfl rfl rfl ?_ | done
  simp (maxSteps := 400000) -dsimp -implicitDefEqProofs (disch := first | exact TrueB.mk rfl | omega) only [go_sem]
  first | refine wpAct_callG (hr _) rfl rfl rfl rfl rfl rfl rfl rfl rfl ?_ | done
  simp (maxSteps := 400000) -dsimp -implicitDefEqProofs (disch := first | exact TrueB.mk rfl | omega) only [go_sem]
  first | refine wpAct_callG (hs _) rfl rfl rfl rfl rfl rfl rfl rfl rfl ?_ | done
  simp (maxSteps := 400000) -dsimp -implicitDefEqProofs (disch := first | exact TrueB.mk rfl | omega) only [go_sem]
  first | refine wpAct_callF (sc _ _) rfl rfl rfl rfl (argV_r rfl hll.symm (argV_r rfl hll.symm argV_nil)) rfl rfl rfl rfl ?_ | done
  simp (maxSteps := 400000) -dsimp -implicitDefEqProofs (disch := first | exact TrueB.mk rfl | omega) only [go_sem]
  first | exact end_bool rfl rfl | done

theorem wfc_i64 {n : Nat} {cs : List PV} (h : WfC Tryd.prog (n + 1) 3 cs) : ∃ i : Int, cs = [.int .i64 i] ∧ -9223372036854775808 ≤ i ∧ i < 9223372036854775808 := by
  simp only [WfC, Tryd.underlying3] at h
  obtain ⟨i, h2, h3⟩ := h
  have hb : -9223372036854775808 ≤ i ∧ i ≤ 9223372036854775807 := by
    simpa [Lit.wf, IntKind.min, IntKind.max, IntKind.bits, IntKind.signed] using h3
  exact ⟨i, h2, by omega, by omega⟩
theorem wfc_u8 {n : Nat} {cs : List PV} (h : WfC Tryd.prog (n + 1) 5 cs) : ∃ c : UInt8, cs = [.int .u8 c.toNat] := by
  simp only [WfC, Tryd.underlying5] at h
  obtain ⟨i, h2, h3⟩ := h
  have hb : 0 ≤ i ∧ i ≤ 255 := by
    simpa [Lit.wf, IntKind.min, IntKind.max, IntKind.bits, IntKind.signed] using h3
  refine ⟨UInt8.ofNat i.toNat, ?_⟩
  rw [h2, UInt8.toNat_ofNat_of_lt' (by show _ < 256; omega)]
  congr 2
  omega
theorem one_cell {x y : PV} (ha : x.isAgg = false) (h : x.cells = [y]) : x = y := by
  cases x with
  | agg cs => cases ha
  | _ =>
    simp only [PV.cells, List.cons.injEq, and_true] at h
    exact h
theorem wfv_i64 {n : Nat} {x : PV} (h : WfV Tryd.prog (n + 1) 3 x) : ∃ i : Int, x = .int .i64 i ∧ -9223372036854775808 ≤ i ∧ i < 9223372036854775808 := by
  obtain ⟨h1, h2⟩ := h
  obtain ⟨i, e, hi⟩ := wfc_i64 h2
  exact ⟨i, one_cell (by rw [h1, agg3]) e, hi⟩
theorem wfv_u8 {n : Nat} {x : PV} (h : WfV Tryd.prog (n + 1) 5 x) : ∃ c : UInt8, x = .int .u8 c.toNat := by
  obtain ⟨h1, h2⟩ := h
  obtain ⟨i, e⟩ := wfc_u8 h2
  exact ⟨i, one_cell (by rw [h1, agg5]) e⟩
theorem agg_cells {x : PV} {cs : List PV} (ha : x.isAgg = true) (h : x.cells = cs) : x = .agg cs := by
  cases x with
  | agg c => rw [← h]; rfl
  | _ => cases ha
theorem wfv_step {n : Nat} {x : PV} (h : WfV Tryd.prog (n + 1 + 1) 48 x) : ∃ p e : Int, x = .agg [.int .i64 p, .int .i64 e] := by
  obtain ⟨h1, h2⟩ := h
  unfold WfC at h2
  rw [Tryd.underlying48] at h2
  have h3 : seqW (WfC Tryd.prog (n + 1)) [3, 3] x.cells := h2
  obtain ⟨a, b, e1, h4, c, d, e2, h5, e3⟩ := h3
  obtain ⟨i, rfl, hi⟩ := wfc_i64 h4
  obtain ⟨j, rfl, hj⟩ := wfc_i64 h5
  have e3' : d = [] := e3
  subst e3' e2
  exact ⟨i, j, agg_cells (by rw [h1, agg48]) e1⟩
theorem steps_of {xs : List PV} (h : ∀ x ∈ xs, ∃ p e : Int, x = .agg [.int .i64 p, .int .i64 e]) : ∃ l, xs = stepsV l := by
  induction xs with
  | nil => exact ⟨[], rfl⟩
  | cons x r ih =>
    obtain ⟨p, e, rfl⟩ := h x (List.mem_cons_self ..)
    obtain ⟨l, rfl⟩ := ih fun y hy => h y (List.mem_cons_of_mem _ hy)
    exact ⟨(p, e) :: l, rfl⟩
theorem wfv_steps {n : Nat} {x : PV} (h : WfV Tryd.prog (n + 1 + 1 + 1) 22 x) : ∃ l, x = .sl (stepsV l) ∧ l.length ≤ 140737488351232 := by
  obtain ⟨h1, h2⟩ := h
  unfold WfC at h2
  simp only [Tryd.underlying22] at h2
  obtain ⟨xs, e2, h3, h4⟩ := h2
  obtain ⟨l, rfl⟩ := steps_of fun y hy => wfv_step (n := n) ⟨(h4 y hy).1, (h4 y hy).2⟩
  rw [bytes48, stepsV_length] at h3
  exact ⟨l, one_cell (by rw [h1, agg22]) e2, by omega⟩

theorem laid_eq : (Rows.laid_umpire_umpireref19_rows : DataW Unit) = rowsD rowsB := by rfl
theorem glob_ok {W : World} (h : laidMetH Tryd.prog [("umpire/umpireref19.rows", Rows.laid_umpire_umpireref19_rows)] W) : GlobOk env (Olds W) W.heap.size W := by
  rw [MakeChecks.laidMetH_plain _ _ _ (by kernel_rfl), laid_eq] at h
  obtain ⟨v, h1, h2, h3⟩ := glob_rows (g := 0) (t := 113) (t2 := 112) (e := 9) h (List.mem_singleton.2 rfl) (by kernel_rfl) (by kernel_rfl) Tryd.underlying113 cells112 Tryd.underlying112 Tryd.underlying9 cells9
  refine ⟨fun g cs hg => ?_⟩
  by_cases hg0 : g = 0
  · subst hg0
    have hcs : cs = [.sl (rowsB.map fun r => .sl (r.map .str))] := (Option.some.inj (show some _ = some cs from hg)).symm
    subst hcs
    refine ⟨fun c hc => ?_, fun i c hi => ?_⟩
    · rw [List.mem_singleton.1 hc]
      rfl
    · have hi0 : i = 0 := by
        have := (List.getElem?_eq_some_iff.1 hi).1
        simp at this
        exact this
      subst hi0
      obtain rfl : _ = c := Option.some.inj hi
      exact ⟨v, h1, h2, h3⟩
  · exfalso
    have : env.glob g = none := by show (if g = 0 then _ else none) = none; rw [if_neg hg0]
    rw [this] at hg
    cases hg

end Go.Proofs.YticdhmcbooabaaaDoor
