/- YticdhmcbooabaaaA: the law's anchor. No claim. -/
import Derived.Test.YticdhmcbooabaaaR1
import Derived.Test.YticdhmcbooabaaaR3
set_option linter.unusedVariables false
set_option maxRecDepth 1000000
set_option maxHeartbeats 0
namespace Go.Proofs.Yticdhmcbooabaaa
open Go Go.Proofs.Yticdhmcbooabaaa.V

theorem reachL_of (cf tm : Int) (h1 : 1 ≤ cf ∧ cf ≤ 4) (h2 : 1 ≤ tm ∧ tm ≤ 4) : reachB cf tm (reachL tm) = true := by
  have q1 : cf = 1 ∨ cf = 2 ∨ cf = 3 ∨ cf = 4 := by omega
  have q2 : tm = 1 ∨ tm = 2 ∨ tm = 3 ∨ tm = 4 := by omega
  rcases q1 with rfl | rfl | rfl | rfl <;> rcases q2 with rfl | rfl | rfl | rfl
  · exact r_1_1
  · exact r_1_2
  · exact r_1_3
  · exact r_1_4
  · exact r_2_1
  · exact r_2_2
  · exact r_2_3
  · exact r_2_4
  · exact r_3_1
  · exact r_3_2
  · exact r_3_3
  · exact r_3_4
  · exact r_4_1
  · exact r_4_2
  · exact r_4_3
  · exact r_4_4
theorem reachL_length (tm : Int) : 300 < (reachL tm).length ∧ (reachL tm).length ≤ 1000 := by
  unfold reachL
  split
  · exact ⟨by decide, by decide⟩
  · exact ⟨by decide, by decide⟩
theorem reach_ok (cf tm : Int) (h1 : 1 ≤ cf ∧ cf ≤ 4) (h2 : 1 ≤ tm ∧ tm ≤ 4) (m : Bool) :
    Runs Try.prog env 8 [.pure m (confV cf tm 1)] [] (.row 0 (reachL tm).length) [(0, .row true 3 0 (cellsV (reachL tm)))] := by
  have hl := reachL_length tm
  exact reach_of (reachL_of cf tm h1 h2) (by omega) (by omega) (fun h => by rw [h] at hl; simp at hl) (by omega) m

def hkR : CF := fun g a S => if g = 8 then match a, S with
    | [.pure m c], [] => if isConf 2 2 c then some (.row 0 341, [(0, .row true 3 0 (cellsV reach2))]) else none
    | _, _ => none
  else none
theorem hkR_ok : CfOk Try.prog env hkR := by
  intro g a S r h
  unfold hkR at h
  split at h
  · rename_i hg
    subst hg
    split at h
    · rename_i m c
      split at h
      · rename_i hc
        obtain rfl := isConf_eq hc
        cases h
        exact reach_ok 2 2 (by decide) (by decide) m
      · cases h
    · cases h
  · cases h
def hkOr (a b : CF) : CF := fun g x S => match a g x S with
  | some r => some r
  | none => b g x S
theorem hkOr_ok {a b : CF} (ha : CfOk Try.prog env a) (hb : CfOk Try.prog env b) : CfOk Try.prog env (hkOr a b) := by
  intro g x S r h
  unfold hkOr at h
  split at h
  · rename_i hr
    cases h
    exact ha _ _ _ _ hr
  · exact hb _ _ _ _ h
theorem awake_ok : Runs Try.prog env 6 [] [] (.pure true (.bool true)) [] := runs_hook (hkOr_ok (hkH_ok (cf := 2) (tm := 2) (by decide) (by decide)) hkR_ok) 400 (by kernel_rfl)
end Go.Proofs.Yticdhmcbooabaaa
