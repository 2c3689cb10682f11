/- YticdhmcbooabaaaDoorDD: parts of the proof of CellsKeeps. No claim. -/
import Derived.Test.YticdhmcbooabaaaDoorK2
import Derived.Test.YticdhmcbooabaaaDoorWB
set_option linter.unusedVariables false
set_option linter.unusedSimpArgs false
set_option maxRecDepth 1000000
namespace Go.Proofs.YticdhmcbooabaaaDoor
open Go Go.Proofs.YticdhmcbooabaaaDoor.V

theorem proto_0 (m : Bool) : Runs Tryd.prog env 34 [.pure m (.int .i64 0)] [] (.pure true (.int .i64 49185)) [] := by cases m <;> exact ⟨60, by kernel_rfl⟩
theorem proto_1 (m : Bool) : Runs Tryd.prog env 34 [.pure m (.int .i64 1)] [] (.pure true (.int .i64 32801)) [] := by cases m <;> exact ⟨60, by kernel_rfl⟩
theorem proto_2 (m : Bool) : Runs Tryd.prog env 34 [.pure m (.int .i64 2)] [] (.pure true (.int .i64 32855)) [] := by cases m <;> exact ⟨60, by kernel_rfl⟩
theorem link_0 (m : Bool) : Runs Tryd.prog env 42 [.pure m (.int .i64 49185)] [] (.pure true (.int .i64 0)) [] := by cases m <;> exact ⟨60, by kernel_rfl⟩
theorem link_1 (m : Bool) : Runs Tryd.prog env 42 [.pure m (.int .i64 32801)] [] (.pure true (.int .i64 1)) [] := by cases m <;> exact ⟨60, by kernel_rfl⟩
theorem link_2 (m : Bool) : Runs Tryd.prog env 42 [.pure m (.int .i64 32855)] [] (.pure true (.int .i64 2)) [] := by cases m <;> exact ⟨60, by kernel_rfl⟩

set_option maxHeartbeats 4000000 in
theorem link_p (p : Int) (h : p ≠ 49185 ∧ p ≠ 32801 ∧ p ≠ 32855) (m : Bool) : Runs Tryd.prog env 42 [.pure m (.int .i64 p)] [] (.pure true (.int .i64 (-1))) [] := by
  obtain ⟨h1, h2, h3⟩ := h
  have p1 : ¬ (49185 : Int) = p := fun e => h1 e.symm
  have p2 : ¬ (32801 : Int) = p := fun e => h2 e.symm
  have p3 : ¬ (32855 : Int) = p := fun e => h3 e.symm
  refine Runs.of Tryd.func42 rfl (by simp [Tryd.ntmps42]) ?_
  simp (maxSteps := 400000) -dsimp -implicitDefEqProofs (disch := first | exact TrueB.mk rfl | omega) only [go_sem, Tryd.ntmps42]
  refine wpLoop_ind (α := Nat)
    (fun i => ⟨[(0, .pure m (.int .i64 p)), (3, .pure true (.int .i64 (i : Nat)))], []⟩)
    (fun i => i ≤ 3) (fun i => 3 - i) ?_ 0 (by omega) rfl
  intro i hi
  have hi4 : i = 0 ∨ i = 1 ∨ i = 2 ∨ i = 3 := by omega
  rcases hi4 with rfl | rfl | rfl | rfl
  · simp (maxSteps := 400000) -dsimp -implicitDefEqProofs (disch := first | exact TrueB.mk rfl | omega) only [go_sem]
    first | refine wpAct_call0 (proto_0 _) rfl rfl rfl rfl rfl rfl rfl rfl ?_ | done
    simp (maxSteps := 400000) -dsimp -implicitDefEqProofs (disch := first | exact TrueB.mk rfl | omega) only [go_sem, p1]
    first | exact again_mk ⟨1, by decide, by decide, rfl⟩ | done
  · simp (maxSteps := 400000) -dsimp -implicitDefEqProofs (disch := first | exact TrueB.mk rfl | omega) only [go_sem]
    first | refine wpAct_call0 (proto_1 _) rfl rfl rfl rfl rfl rfl rfl rfl ?_ | done
    simp (maxSteps := 400000) -dsimp -implicitDefEqProofs (disch := first | exact TrueB.mk rfl | omega) only [go_sem, p2]
    first | exact again_mk ⟨2, by decide, by decide, rfl⟩ | done
  · simp (maxSteps := 400000) -dsimp -implicitDefEqProofs (disch := first | exact TrueB.mk rfl | omega) only [go_sem]
    first | refine wpAct_call0 (proto_2 _) rfl rfl rfl rfl rfl rfl rfl rfl ?_ | done
    simp (maxSteps := 400000) -dsimp -implicitDefEqProofs (disch := first | exact TrueB.mk rfl | omega) only [go_sem, p3]
    first | exact again_mk ⟨3, by decide, by decide, rfl⟩ | done
  · simp (maxSteps := 400000) -dsimp -implicitDefEqProofs (disch := first | exact TrueB.mk rfl | omega) only [go_sem]
    first | exact end_int rfl rfl | done

set_option maxHeartbeats 4000000 in
theorem has7_any (l : List Nat) (hl : l.length ≤ 1000) (m m' : Bool) : Runs Tryd.prog env 49 [.pure m (.sl (intsOf l)), .pure m' (.int .i64 7)] [] (.pure true (.bool (hasN l 7))) [] := by
  have hil := intsOf_length l
  refine Runs.of Tryd.func49 rfl (by simp [Tryd.ntmps49]) ?_
  simp (maxSteps := 400000) -dsimp -implicitDefEqProofs (disch := first | exact TrueB.mk rfl | omega) only [go_sem, Tryd.ntmps49, hil]
  refine wpLoop_ind (α := Nat)
    (fun i => ⟨[(0, .pure m (.sl (intsOf l))), (1, .pure m' (.int .i64 7)), (5, .pure true (.int .i64 (i : Nat)))], []⟩)
    (fun i => i ≤ l.length ∧ ∀ j (hj : j < l.length), j < i → l[j] ≠ 7) (fun i => l.length - i) ?_ 0 ⟨by omega, fun j hj h => by omega⟩ rfl
  rintro i ⟨hi, hn⟩
  rcases Classical.em (i < l.length) with hlt | hge
  · have g1 := ints_at hlt
    rcases Classical.em (l[i] = 7) with h7 | h7
    · have hh : hasN l 7 = true := by
        unfold hasN
        rw [List.contains_iff_mem]
        exact h7 ▸ List.getElem_mem hlt
      rw [h7] at g1
      simp (maxSteps := 400000) -dsimp -implicitDefEqProofs (disch := first | exact TrueB.mk rfl | omega) only [go_sem, g1, hil]
      first | exact end_bool rfl hh.symm | done
    · have h8 : ¬ ((l[i] : Nat) : Int) = 7 := by omega
      simp (maxSteps := 400000) -dsimp -implicitDefEqProofs (disch := first | exact TrueB.mk rfl | omega) only [go_sem, g1, hil, h8]
      refine again_mk ⟨i + 1, ⟨by omega, fun j hj hji => ?_⟩, by omega, rfl⟩
      rcases Nat.lt_or_ge j i with h | h
      · exact hn j hj h
      · obtain rfl : j = i := by omega
        exact h7
  · have hh : hasN l 7 = false := by
      cases h : hasN l 7 with
      | false => rfl
      | true =>
        obtain ⟨j, hj, e, _⟩ := has_first h
        exact absurd e (hn j hj (by omega))
    simp (maxSteps := 400000) -dsimp -implicitDefEqProofs (disch := first | exact TrueB.mk rfl | omega) only [go_sem, hil]
    first | exact end_bool rfl hh.symm | done

/-- What a text comes to, told by a property of it. -/
def endX (P : Program) (n0 : Nat) (rs : List ResultVar) (R : SV → Store → Prop) : Ex → Slots → Store → Prop
  | .normal, s, S | .ret, s, S => ∃ res S1, outV P n0 rs s S = some (res, S1) ∧ R res S1
  | .exit _, _, _ => False
theorem RunsX.of {P : Program} {E : Env} {R : SV → Store → Prop} {g : FuncId} {fn : Func} {c : Code} {args : List SV} {S0 : Store} (hf : P.funcs[g]? = some fn) (hb : fn.body = some c) (hn : args.length ≤ fn.ntmps)
    (h : wpX P E S0.length (S0.length + 16 * fn.ntmps) (E.ann g) (E.reg g) c (argSlots 0 args) S0 (endX P S0.length fn.results.toList R)) : ∃ res S1, Runs P E g args S0 res S1 ∧ R res S1 := by
  obtain ⟨n, ex, σ, h1, h2⟩ := wpX_run c h
  cases ex with
  | normal =>
    obtain ⟨res, S1, h3, h4⟩ := h2
    refine ⟨res, S1, ⟨n + 1, ?_⟩, h4⟩
    unfold callF
    rw [hf]
    simp only [hb]
    rw [if_neg (by omega)]
    rw [h1]
    exact h3
  | ret =>
    obtain ⟨res, S1, h3, h4⟩ := h2
    refine ⟨res, S1, ⟨n + 1, ?_⟩, h4⟩
    unfold callF
    rw [hf]
    simp only [hb]
    rw [if_neg (by omega)]
    rw [h1]
    exact h3
  | exit j => exact h2.elim
theorem newQ (q : Bool) (a b : Int) (n : Nat) : newV (.tuple [.pure q (.agg [.int .i64 a, .int .i64 b]), .row 0 n, .pure true (.bool true)]) = true := by cases q <;> rfl
theorem endX_ret (P : Program) (n0 : Nat) (rs : List ResultVar) (R : SV → Store → Prop) (s : Slots) (S : Store) : endX P n0 rs R .ret s S = ∃ res S1, outV P n0 rs s S = some (res, S1) ∧ R res S1 := rfl
theorem endX_normal (P : Program) (n0 : Nat) (rs : List ResultVar) (R : SV → Store → Prop) (s : Slots) (S : Store) : endX P n0 rs R .normal s S = ∃ res S1, outV P n0 rs s S = some (res, S1) ∧ R res S1 := rfl
@[congr] theorem endX_congr {P : Program} {n0 : Nat} {rs : List ResultVar} {R : SV → Store → Prop} {e e' : Ex} {s s' : Slots} {S S' : Store} (h : e = e') (h1 : s = s') (h2 : S = S') : endX P n0 rs R e s S = endX P n0 rs R e' s' S' := by rw [h, h1, h2]

set_option maxHeartbeats 16000000 in
theorem HapN_0 {cf tm : Int} {x y z : L3} {e : Int} (hx : okL x) (h : hapL cf tm x e = none) (mc mb mi me : Bool) :
    Runs Tryd.prog env 37 [.pure mc (confV cf tm 1), .pure mb (benchV (x, y, z)), .pure mi (.int .i64 0), .pure me (.int .i64 e)] [] (.tuple [.pure mb (benchV (x, y, z)), .pure true (.agg [.int .i64 0, .int .i64 0, .int .i64 0]), .pure true (.bool false)]) [] := by
  have d1 := fun mc m m' => stepR_no x.1 e x.2.1 cf tm hx.1 (hapL_no h) mc m m'
  unfold confV autV benchV at *
  refine Runs.of Tryd.func37 rfl (by simp [Tryd.ntmps37]) ?_
  simp (maxSteps := 400000) -dsimp -implicitDefEqProofs (disch := first | exact TrueB.mk rfl | omega) only [go_sem, Tryd.ntmps37]
  first | refine wpAct_callG (d1 _ _ _) rfl rfl rfl rfl rfl rfl rfl rfl rfl ?_ | done
  simp (maxSteps := 400000) -dsimp -implicitDefEqProofs (disch := first | exact TrueB.mk rfl | omega) only [go_sem]
  cases mb <;> exact rfl

set_option maxHeartbeats 32000000 in
theorem HapY_0 {cf tm : Int} (h1 : 1 ≤ cf ∧ cf ≤ 255) (h2 : 1 ≤ tm ∧ tm ≤ 255) {x y z x' : L3} {e : Int} (hx : okL x) (h : hapL cf tm x e = some x') (mc mb mi me : Bool) :
    ∃ q q', Runs Tryd.prog env 37 [.pure mc (confV cf tm 1), .pure mb (benchV (x, y, z)), .pure mi (.int .i64 0), .pure me (.int .i64 e)] [] (.tuple [.pure q (benchV (x', y, z)), .pure q' (.agg [.int .i64 49185, .int .i64 x.1, .int .i64 e]), .pure true (.bool true)]) [] := by
  obtain ⟨n, l, h3, h4, rfl⟩ := hapL_yes h
  have hil := intsOf_length l
  have d1 := fun mc m m' => stepR_yes x.1 e x.2.1 cf tm h1 h2 hx h3 mc m m'
  have c1 := fun m m' => has7_any l (by omega) m m'
  generalize restA cf tm l x.2.1 = r' at *
  generalize hasN l 7 = h7 at *
  obtain ⟨qf, d2⟩ : ∃ qf : Bool → Bool → Bool → Bool, ∀ mc m m', Runs Tryd.prog env 48 [.pure mc (confV cf tm 1), .pure m (autV x.1 x.2.1), .pure m' (.int .i64 e)] [] (.tuple [.pure (qf mc m m') (autV n r'), .row 0 l.length, .pure true (.bool true)]) [(0, .row true (zOf l) 0 (intsOf l))] := ⟨fun mc m m' => Classical.choose (d1 mc m m'), fun mc m m' => Classical.choose_spec (d1 mc m m')⟩
  clear d1
  have key : ∃ res S1, Runs Tryd.prog env 37 [.pure mc (confV cf tm 1), .pure mb (benchV (x, y, z)), .pure mi (.int .i64 0), .pure me (.int .i64 e)] [] res S1 ∧ (S1 = [] ∧ ∃ q q', res = .tuple [.pure q (benchV ((((n : Nat) : Int), r', x.2.2 || h7), y, z)), .pure q' (.agg [.int .i64 49185, .int .i64 x.1, .int .i64 e]), .pure true (.bool true)]) := by
    unfold confV autV benchV at *
    refine RunsX.of Tryd.func37 rfl (by simp [Tryd.ntmps37]) ?_
    cases h7 with
    | true =>
      simp only [Bool.or_true]
      simp (maxSteps := 400000) -dsimp -implicitDefEqProofs (disch := first | exact TrueB.mk rfl | omega) only [go_sem, Tryd.ntmps37, endX_ret, endX_normal]
      refine wpAct_callG (d2 _ _ _) rfl rfl rfl rfl rfl rfl (newQ _ _ _ _) rfl rfl ?_
      simp (maxSteps := 400000) -dsimp -implicitDefEqProofs (disch := first | exact TrueB.mk rfl | omega) only [go_sem, endX_ret, endX_normal]
      first | refine wpAct_call0 (proto_0 _) rfl rfl rfl rfl rfl rfl rfl rfl ?_ | done
      simp (maxSteps := 400000) -dsimp -implicitDefEqProofs (disch := first | exact TrueB.mk rfl | omega) only [go_sem, endX_ret, endX_normal]
      first | refine wpAct_callF (c1 _ _) rfl rfl rfl rfl (argV_r rfl hil.symm (argV_p rfl argV_nil)) rfl rfl rfl rfl ?_ | done
      simp (maxSteps := 400000) -dsimp -implicitDefEqProofs (disch := first | exact TrueB.mk rfl | omega) only [go_sem, endX_ret, endX_normal]
      generalize qf _ _ _ = q
      cases q <;> cases mb <;> exact ⟨_, _, rfl, rfl, _, _, rfl⟩
    | false =>
      simp only [Bool.or_false]
      simp (maxSteps := 400000) -dsimp -implicitDefEqProofs (disch := first | exact TrueB.mk rfl | omega) only [go_sem, Tryd.ntmps37, endX_ret, endX_normal]
      refine wpAct_callG (d2 _ _ _) rfl rfl rfl rfl rfl rfl (newQ _ _ _ _) rfl rfl ?_
      simp (maxSteps := 400000) -dsimp -implicitDefEqProofs (disch := first | exact TrueB.mk rfl | omega) only [go_sem, endX_ret, endX_normal]
      first | refine wpAct_call0 (proto_0 _) rfl rfl rfl rfl rfl rfl rfl rfl ?_ | done
      simp (maxSteps := 400000) -dsimp -implicitDefEqProofs (disch := first | exact TrueB.mk rfl | omega) only [go_sem, endX_ret, endX_normal]
      first | refine wpAct_callF (c1 _ _) rfl rfl rfl rfl (argV_r rfl hil.symm (argV_p rfl argV_nil)) rfl rfl rfl rfl ?_ | done
      simp (maxSteps := 400000) -dsimp -implicitDefEqProofs (disch := first | exact TrueB.mk rfl | omega) only [go_sem, endX_ret, endX_normal]
      generalize qf _ _ _ = q
      cases q <;> cases mb <;> exact ⟨_, _, rfl, rfl, _, _, rfl⟩
  obtain ⟨res, S1, k1, rfl, q, q', rfl⟩ := key
  exact ⟨q, q', k1⟩

set_option maxHeartbeats 16000000 in
theorem HapN_1 {cf tm : Int} {x y z : L3} {e : Int} (hx : okL y) (h : hapL cf tm y e = none) (mc mb mi me : Bool) :
    Runs Tryd.prog env 37 [.pure mc (confV cf tm 1), .pure mb (benchV (x, y, z)), .pure mi (.int .i64 1), .pure me (.int .i64 e)] [] (.tuple [.pure mb (benchV (x, y, z)), .pure true (.agg [.int .i64 0, .int .i64 0, .int .i64 0]), .pure true (.bool false)]) [] := by
  have d1 := fun mc m m' => stepR_no y.1 e y.2.1 cf tm hx.1 (hapL_no h) mc m m'
  unfold confV autV benchV at *
  refine Runs.of Tryd.func37 rfl (by simp [Tryd.ntmps37]) ?_
  simp (maxSteps := 400000) -dsimp -implicitDefEqProofs (disch := first | exact TrueB.mk rfl | omega) only [go_sem, Tryd.ntmps37]
  first | refine wpAct_callG (d1 _ _ _) rfl rfl rfl rfl rfl rfl rfl rfl rfl ?_ | done
  simp (maxSteps := 400000) -dsimp -implicitDefEqProofs (disch := first | exact TrueB.mk rfl | omega) only [go_sem]
  cases mb <;> exact rfl

set_option maxHeartbeats 32000000 in
theorem HapY_1 {cf tm : Int} (h1 : 1 ≤ cf ∧ cf ≤ 255) (h2 : 1 ≤ tm ∧ tm ≤ 255) {x y z y' : L3} {e : Int} (hx : okL y) (h : hapL cf tm y e = some y') (mc mb mi me : Bool) :
    ∃ q q', Runs Tryd.prog env 37 [.pure mc (confV cf tm 1), .pure mb (benchV (x, y, z)), .pure mi (.int .i64 1), .pure me (.int .i64 e)] [] (.tuple [.pure q (benchV (x, y', z)), .pure q' (.agg [.int .i64 32801, .int .i64 y.1, .int .i64 e]), .pure true (.bool true)]) [] := by
  obtain ⟨n, l, h3, h4, rfl⟩ := hapL_yes h
  have hil := intsOf_length l
  have d1 := fun mc m m' => stepR_yes y.1 e y.2.1 cf tm h1 h2 hx h3 mc m m'
  have c1 := fun m m' => has7_any l (by omega) m m'
  generalize restA cf tm l y.2.1 = r' at *
  generalize hasN l 7 = h7 at *
  obtain ⟨qf, d2⟩ : ∃ qf : Bool → Bool → Bool → Bool, ∀ mc m m', Runs Tryd.prog env 48 [.pure mc (confV cf tm 1), .pure m (autV y.1 y.2.1), .pure m' (.int .i64 e)] [] (.tuple [.pure (qf mc m m') (autV n r'), .row 0 l.length, .pure true (.bool true)]) [(0, .row true (zOf l) 0 (intsOf l))] := ⟨fun mc m m' => Classical.choose (d1 mc m m'), fun mc m m' => Classical.choose_spec (d1 mc m m')⟩
  clear d1
  have key : ∃ res S1, Runs Tryd.prog env 37 [.pure mc (confV cf tm 1), .pure mb (benchV (x, y, z)), .pure mi (.int .i64 1), .pure me (.int .i64 e)] [] res S1 ∧ (S1 = [] ∧ ∃ q q', res = .tuple [.pure q (benchV (x, (((n : Nat) : Int), r', y.2.2 || h7), z)), .pure q' (.agg [.int .i64 32801, .int .i64 y.1, .int .i64 e]), .pure true (.bool true)]) := by
    unfold confV autV benchV at *
    refine RunsX.of Tryd.func37 rfl (by simp [Tryd.ntmps37]) ?_
    cases h7 with
    | true =>
      simp only [Bool.or_true]
      simp (maxSteps := 400000) -dsimp -implicitDefEqProofs (disch := first | exact TrueB.mk rfl | omega) only [go_sem, Tryd.ntmps37, endX_ret, endX_normal]
      refine wpAct_callG (d2 _ _ _) rfl rfl rfl rfl rfl rfl (newQ _ _ _ _) rfl rfl ?_
      simp (maxSteps := 400000) -dsimp -implicitDefEqProofs (disch := first | exact TrueB.mk rfl | omega) only [go_sem, endX_ret, endX_normal]
      first | refine wpAct_call0 (proto_1 _) rfl rfl rfl rfl rfl rfl rfl rfl ?_ | done
      simp (maxSteps := 400000) -dsimp -implicitDefEqProofs (disch := first | exact TrueB.mk rfl | omega) only [go_sem, endX_ret, endX_normal]
      first | refine wpAct_callF (c1 _ _) rfl rfl rfl rfl (argV_r rfl hil.symm (argV_p rfl argV_nil)) rfl rfl rfl rfl ?_ | done
      simp (maxSteps := 400000) -dsimp -implicitDefEqProofs (disch := first | exact TrueB.mk rfl | omega) only [go_sem, endX_ret, endX_normal]
      generalize qf _ _ _ = q
      cases q <;> cases mb <;> exact ⟨_, _, rfl, rfl, _, _, rfl⟩
    | false =>
      simp only [Bool.or_false]
      simp (maxSteps := 400000) -dsimp -implicitDefEqProofs (disch := first | exact TrueB.mk rfl | omega) only [go_sem, Tryd.ntmps37, endX_ret, endX_normal]
      refine wpAct_callG (d2 _ _ _) rfl rfl rfl rfl rfl rfl (newQ _ _ _ _) rfl rfl ?_
      simp (maxSteps := 400000) -dsimp -implicitDefEqProofs (disch := first | exact TrueB.mk rfl | omega) only [go_sem, endX_ret, endX_normal]
      first | refine wpAct_call0 (proto_1 _) rfl rfl rfl rfl rfl rfl rfl rfl ?_ | done
      simp (maxSteps := 400000) -dsimp -implicitDefEqProofs (disch := first | exact TrueB.mk rfl | omega) only [go_sem, endX_ret, endX_normal]
      first | refine wpAct_callF (c1 _ _) rfl rfl rfl rfl (argV_r rfl hil.symm (argV_p rfl argV_nil)) rfl rfl rfl rfl ?_ | done
      simp (maxSteps := 400000) -dsimp -implicitDefEqProofs (disch := first | exact TrueB.mk rfl | omega) only [go_sem, endX_ret, endX_normal]
      generalize qf _ _ _ = q
      cases q <;> cases mb <;> exact ⟨_, _, rfl, rfl, _, _, rfl⟩
  obtain ⟨res, S1, k1, rfl, q, q', rfl⟩ := key
  exact ⟨q, q', k1⟩

set_option maxHeartbeats 16000000 in
theorem HapN_2 {cf tm : Int} {x y z : L3} {e : Int} (hx : okL z) (h : hapL cf tm z e = none) (mc mb mi me : Bool) :
    Runs Tryd.prog env 37 [.pure mc (confV cf tm 1), .pure mb (benchV (x, y, z)), .pure mi (.int .i64 2), .pure me (.int .i64 e)] [] (.tuple [.pure mb (benchV (x, y, z)), .pure true (.agg [.int .i64 0, .int .i64 0, .int .i64 0]), .pure true (.bool false)]) [] := by
  have d1 := fun mc m m' => stepR_no z.1 e z.2.1 cf tm hx.1 (hapL_no h) mc m m'
  unfold confV autV benchV at *
  refine Runs.of Tryd.func37 rfl (by simp [Tryd.ntmps37]) ?_
  simp (maxSteps := 400000) -dsimp -implicitDefEqProofs (disch := first | exact TrueB.mk rfl | omega) only [go_sem, Tryd.ntmps37]
  first | refine wpAct_callG (d1 _ _ _) rfl rfl rfl rfl rfl rfl rfl rfl rfl ?_ | done
  simp (maxSteps := 400000) -dsimp -implicitDefEqProofs (disch := first | exact TrueB.mk rfl | omega) only [go_sem]
  cases mb <;> exact rfl

set_option maxHeartbeats 32000000 in
theorem HapY_2 {cf tm : Int} (h1 : 1 ≤ cf ∧ cf ≤ 255) (h2 : 1 ≤ tm ∧ tm ≤ 255) {x y z z' : L3} {e : Int} (hx : okL z) (h : hapL cf tm z e = some z') (mc mb mi me : Bool) :
    ∃ q q', Runs Tryd.prog env 37 [.pure mc (confV cf tm 1), .pure mb (benchV (x, y, z)), .pure mi (.int .i64 2), .pure me (.int .i64 e)] [] (.tuple [.pure q (benchV (x, y, z')), .pure q' (.agg [.int .i64 32855, .int .i64 z.1, .int .i64 e]), .pure true (.bool true)]) [] := by
  obtain ⟨n, l, h3, h4, rfl⟩ := hapL_yes h
  have hil := intsOf_length l
  have d1 := fun mc m m' => stepR_yes z.1 e z.2.1 cf tm h1 h2 hx h3 mc m m'
  have c1 := fun m m' => has7_any l (by omega) m m'
  generalize restA cf tm l z.2.1 = r' at *
  generalize hasN l 7 = h7 at *
  obtain ⟨qf, d2⟩ : ∃ qf : Bool → Bool → Bool → Bool, ∀ mc m m', Runs Tryd.prog env 48 [.pure mc (confV cf tm 1), .pure m (autV z.1 z.2.1), .pure m' (.int .i64 e)] [] (.tuple [.pure (qf mc m m') (autV n r'), .row 0 l.length, .pure true (.bool true)]) [(0, .row true (zOf l) 0 (intsOf l))] := ⟨fun mc m m' => Classical.choose (d1 mc m m'), fun mc m m' => Classical.choose_spec (d1 mc m m')⟩
  clear d1
  have key : ∃ res S1, Runs Tryd.prog env 37 [.pure mc (confV cf tm 1), .pure mb (benchV (x, y, z)), .pure mi (.int .i64 2), .pure me (.int .i64 e)] [] res S1 ∧ (S1 = [] ∧ ∃ q q', res = .tuple [.pure q (benchV (x, y, (((n : Nat) : Int), r', z.2.2 || h7))), .pure q' (.agg [.int .i64 32855, .int .i64 z.1, .int .i64 e]), .pure true (.bool true)]) := by
    unfold confV autV benchV at *
    refine RunsX.of Tryd.func37 rfl (by simp [Tryd.ntmps37]) ?_
    cases h7 with
    | true =>
      simp only [Bool.or_true]
      simp (maxSteps := 400000) -dsimp -implicitDefEqProofs (disch := first | exact TrueB.mk rfl | omega) only [go_sem, Tryd.ntmps37, endX_ret, endX_normal]
      refine wpAct_callG (d2 _ _ _) rfl rfl rfl rfl rfl rfl (newQ _ _ _ _) rfl rfl ?_
      simp (maxSteps := 400000) -dsimp -implicitDefEqProofs (disch := first | exact TrueB.mk rfl | omega) only [go_sem, endX_ret, endX_normal]
      first | refine wpAct_call0 (proto_2 _) rfl rfl rfl rfl rfl rfl rfl rfl ?_ | done
      simp (maxSteps := 400000) -dsimp -implicitDefEqProofs (disch := first | exact TrueB.mk rfl | omega) only [go_sem, endX_ret, endX_normal]
      first | refine wpAct_callF (c1 _ _) rfl rfl rfl rfl (argV_r rfl hil.symm (argV_p rfl argV_nil)) rfl rfl rfl rfl ?_ | done
      simp (maxSteps := 400000) -dsimp -implicitDefEqProofs (disch := first | exact TrueB.mk rfl | omega) only [go_sem, endX_ret, endX_normal]
      generalize qf _ _ _ = q
      cases q <;> cases mb <;> exact ⟨_, _, rfl, rfl, _, _, rfl⟩
    | false =>
      simp only [Bool.or_false]
      simp (maxSteps := 400000) -dsimp -implicitDefEqProofs (disch := first | exact TrueB.mk rfl | omega) only [go_sem, Tryd.ntmps37, endX_ret, endX_normal]
      refine wpAct_callG (d2 _ _ _) rfl rfl rfl rfl rfl rfl (newQ _ _ _ _) rfl rfl ?_
      simp (maxSteps := 400000) -dsimp -implicitDefEqProofs (disch := first | exact TrueB.mk rfl | omega) only [go_sem, endX_ret, endX_normal]
      first | refine wpAct_call0 (proto_2 _) rfl rfl rfl rfl rfl rfl rfl rfl ?_ | done
      simp (maxSteps := 400000) -dsimp -implicitDefEqProofs (disch := first | exact TrueB.mk rfl | omega) only [go_sem, endX_ret, endX_normal]
      first | refine wpAct_callF (c1 _ _) rfl rfl rfl rfl (argV_r rfl hil.symm (argV_p rfl argV_nil)) rfl rfl rfl rfl ?_ | done
      simp (maxSteps := 400000) -dsimp -implicitDefEqProofs (disch := first | exact TrueB.mk rfl | omega) only [go_sem, endX_ret, endX_normal]
      generalize qf _ _ _ = q
      cases q <;> cases mb <;> exact ⟨_, _, rfl, rfl, _, _, rfl⟩
  obtain ⟨res, S1, k1, rfl, q, q', rfl⟩ := key
  exact ⟨q, q', k1⟩

end Go.Proofs.YticdhmcbooabaaaDoor
