/- YticdhmcbooabaaaDoorB: what is no cell. No claim. -/
import Derived.Test.YticdhmcbooabaaaDoorE
set_option linter.unusedVariables false
set_option linter.unusedSimpArgs false
set_option maxRecDepth 100000
namespace Go.Proofs.YticdhmcbooabaaaDoor
open Go Go.Proofs.YticdhmcbooabaaaDoor.V

theorem b_beq4 {E : Env} {m m' p q : Bool} : binV Tryd.prog E .eql 4 (.pure m (.bool p)) (.pure m' (.bool q)) = some (.bool (p == q)) := b_beql Tryd.underlying4
theorem b_bne4 {E : Env} {m m' p q : Bool} : binV Tryd.prog E .neq 4 (.pure m (.bool p)) (.pure m' (.bool q)) = some (.bool !(p == q)) := b_bneq Tryd.underlying4
theorem beq_tt : (true == true) = true := rfl
theorem beq_ff : (false == false) = true := rfl
attribute [go_sem] b_beq4 b_bne4 beq_tt beq_ff
def inT (s e : Int) : Prop := 0 ≤ s ∧ s ≤ 9 ∧ 1 ≤ e ∧ e ≤ 16
theorem none_any : Runs Tryd.prog env 63 [] [] (.tuple [.pure true (.agg [.int .i64 0, .sl []]), .pure true (.bool false)]) [] := ⟨60, by kernel_rfl⟩

set_option maxHeartbeats 4000000 in
theorem findOut_any (s e : Int) (h : ¬ inT s e) (m m' : Bool) : Runs Tryd.prog env 62 [.pure m (.int .i64 s), .pure m' (.int .i64 e)] [] (.tuple [.pure true (.agg [.int .i64 0, .sl []]), .pure true (.bool false)]) [] := by
  unfold inT at h
  refine Runs.of Tryd.func62 rfl (by simp [Tryd.ntmps62]) ?_
  rcases Classical.em (s < 0) with h1 | h1
  · simp (maxSteps := 400000) -dsimp -implicitDefEqProofs (disch := first | exact TrueB.mk rfl | omega) only [go_sem, Tryd.ntmps62]
    first | refine wpAct_call0 (none_any) rfl rfl rfl rfl rfl rfl rfl rfl ?_ | done
    simp (maxSteps := 400000) -dsimp -implicitDefEqProofs (disch := first | exact TrueB.mk rfl | omega) only [go_sem]
    first | exact rfl | done
  · rcases Classical.em (9 < s) with h2 | h2
    · simp (maxSteps := 400000) -dsimp -implicitDefEqProofs (disch := first | exact TrueB.mk rfl | omega) only [go_sem, Tryd.ntmps62]
      first | refine wpAct_call0 (none_any) rfl rfl rfl rfl rfl rfl rfl rfl ?_ | done
      simp (maxSteps := 400000) -dsimp -implicitDefEqProofs (disch := first | exact TrueB.mk rfl | omega) only [go_sem]
      first | exact rfl | done
    · rcases Classical.em (e < 1) with h3 | h3
      · simp (maxSteps := 400000) -dsimp -implicitDefEqProofs (disch := first | exact TrueB.mk rfl | omega) only [go_sem, Tryd.ntmps62]
        first | refine wpAct_call0 (none_any) rfl rfl rfl rfl rfl rfl rfl rfl ?_ | done
        simp (maxSteps := 400000) -dsimp -implicitDefEqProofs (disch := first | exact TrueB.mk rfl | omega) only [go_sem]
        first | exact rfl | done
      · have h4 : 16 < e := by omega
        simp (maxSteps := 400000) -dsimp -implicitDefEqProofs (disch := first | exact TrueB.mk rfl | omega) only [go_sem, Tryd.ntmps62]
        first | refine wpAct_call0 (none_any) rfl rfl rfl rfl rfl rfl rfl rfl ?_ | done
        simp (maxSteps := 400000) -dsimp -implicitDefEqProofs (disch := first | exact TrueB.mk rfl | omega) only [go_sem]
        first | exact rfl | done

set_option maxHeartbeats 4000000 in
theorem lookOut_any (s e : Int) (h : ¬ inT s e) (m m' : Bool) : Runs Tryd.prog env 60 [.pure m (.int .i64 s), .pure m' (.int .i64 e)] [] (.tuple [.pure true (.int .i64 0), .pure true (.sl []), .pure true (.bool false)]) [] := by
  have c := fun m m' => findOut_any s e h m m'
  refine Runs.of Tryd.func60 rfl (by simp [Tryd.ntmps60]) ?_
  simp (maxSteps := 400000) -dsimp -implicitDefEqProofs (disch := first | exact TrueB.mk rfl | omega) only [go_sem, Tryd.ntmps60]
  first | refine wpAct_call0 (c _ _) rfl rfl rfl rfl rfl rfl rfl rfl ?_ | done
  simp (maxSteps := 400000) -dsimp -implicitDefEqProofs (disch := first | exact TrueB.mk rfl | omega) only [go_sem]
  first | exact rfl | done


set_option maxHeartbeats 4000000 in
theorem refLookOut_any (s e : Int) (h : ¬ inT s e) (m m' : Bool) : Runs Tryd.prog env 55 [.pure m (.int .i64 s), .pure m' (.int .i64 e)] [] (.tuple [.pure true (.int .i64 0), .row 0 0, .pure true (.bool false)]) [(0, .row true 0 0 [])] := by
  unfold inT at h
  refine Runs.of Tryd.func55 rfl (by simp [Tryd.ntmps55]) ?_
  rcases Classical.em (s < 0) with h1 | h1
  · simp (maxSteps := 400000) -dsimp -implicitDefEqProofs (disch := first | exact TrueB.mk rfl | omega) only [go_sem, Tryd.ntmps55]
    first | exact rfl | done
  · rcases Classical.em (9 < s) with h2 | h2
    · simp (maxSteps := 400000) -dsimp -implicitDefEqProofs (disch := first | exact TrueB.mk rfl | omega) only [go_sem, Tryd.ntmps55]
      first | exact rfl | done
    · rcases Classical.em (e < 1) with h3 | h3
      · simp (maxSteps := 400000) -dsimp -implicitDefEqProofs (disch := first | exact TrueB.mk rfl | omega) only [go_sem, Tryd.ntmps55]
        first | exact rfl | done
      · have h4 : 16 < e := by omega
        simp (maxSteps := 400000) -dsimp -implicitDefEqProofs (disch := first | exact TrueB.mk rfl | omega) only [go_sem, Tryd.ntmps55]
        first | exact rfl | done
end Go.Proofs.YticdhmcbooabaaaDoor
