/- YticdhmcbooabaaaDoorH: what the two Look's answer, of whatever state and event. No claim. -/
import Derived.Test.YticdhmcbooabaaaDoorFG
set_option linter.unusedVariables false
set_option linter.unusedSimpArgs false
set_option maxRecDepth 100000
namespace Go.Proofs.YticdhmcbooabaaaDoor
open Go Go.Proofs.YticdhmcbooabaaaDoor.V
theorem look_any (s e : Int) (m m' : Bool) : Runs Tryd.prog env 60 [.pure m (.int .i64 s), .pure m' (.int .i64 e)] [] (lookR (cellI s e)) [] := by
  unfold cellI
  by_cases h : 0 ≤ s ∧ s ≤ 9 ∧ 1 ≤ e ∧ e ≤ 16
  · rw [if_pos h]
    obtain ⟨h1, h2, h3, h4⟩ := h
    obtain ⟨t, rfl⟩ : ∃ t : Nat, s = t := ⟨s.toNat, by omega⟩
    obtain ⟨f, rfl⟩ : ∃ t : Nat, e = t := ⟨e.toNat, by omega⟩
    show Runs _ _ _ _ _ (lookR (cellT t f)) []
    have h5 : t = 0 ∨ t = 1 ∨ t = 2 ∨ t = 3 ∨ t = 4 ∨ t = 5 ∨ t = 6 ∨ t = 7 ∨ t = 8 ∨ t = 9 := by omega
    rcases h5 with rfl | rfl | rfl | rfl | rfl | rfl | rfl | rfl | rfl | rfl
    · exact lookRow_0 f (by omega) (by omega) m m'
    · exact lookRow_1 f (by omega) (by omega) m m'
    · exact lookRow_2 f (by omega) (by omega) m m'
    · exact lookRow_3 f (by omega) (by omega) m m'
    · exact lookRow_4 f (by omega) (by omega) m m'
    · exact lookRow_5 f (by omega) (by omega) m m'
    · exact lookRow_6 f (by omega) (by omega) m m'
    · exact lookRow_7 f (by omega) (by omega) m m'
    · exact lookRow_8 f (by omega) (by omega) m m'
    · exact lookRow_9 f (by omega) (by omega) m m'
  · rw [if_neg h]
    exact lookOut_any s e h m m'
theorem rlook_any (s e : Int) (m m' : Bool) : Runs Tryd.prog env 55 [.pure m (.int .i64 s), .pure m' (.int .i64 e)] [] (rlookR (cellI s e)) (rlookS (cellI s e)) := by
  unfold cellI
  by_cases h : 0 ≤ s ∧ s ≤ 9 ∧ 1 ≤ e ∧ e ≤ 16
  · rw [if_pos h]
    obtain ⟨h1, h2, h3, h4⟩ := h
    obtain ⟨t, rfl⟩ : ∃ t : Nat, s = t := ⟨s.toNat, by omega⟩
    obtain ⟨f, rfl⟩ : ∃ t : Nat, e = t := ⟨e.toNat, by omega⟩
    show Runs _ _ _ _ _ (rlookR (cellT t f)) (rlookS (cellT t f))
    have h5 : t = 0 ∨ t = 1 ∨ t = 2 ∨ t = 3 ∨ t = 4 ∨ t = 5 ∨ t = 6 ∨ t = 7 ∨ t = 8 ∨ t = 9 := by omega
    rcases h5 with rfl | rfl | rfl | rfl | rfl | rfl | rfl | rfl | rfl | rfl
    · exact rlookRow_0 f (by omega) (by omega) m m'
    · exact rlookRow_1 f (by omega) (by omega) m m'
    · exact rlookRow_2 f (by omega) (by omega) m m'
    · exact rlookRow_3 f (by omega) (by omega) m m'
    · exact rlookRow_4 f (by omega) (by omega) m m'
    · exact rlookRow_5 f (by omega) (by omega) m m'
    · exact rlookRow_6 f (by omega) (by omega) m m'
    · exact rlookRow_7 f (by omega) (by omega) m m'
    · exact rlookRow_8 f (by omega) (by omega) m m'
    · exact rlookRow_9 f (by omega) (by omega) m m'
  · rw [if_neg h]
    exact refLookOut_any s e h m m'
end Go.Proofs.YticdhmcbooabaaaDoor
