/- YtnhbmabikngmpaaDoorZHZ: what the two Look's answer, of whatever state and event. No claim. -/
import Derived.Test.YtnhbmabikngmpaaDoorZF0
import Derived.Test.YtnhbmabikngmpaaDoorZF1
import Derived.Test.YtnhbmabikngmpaaDoorZF2
import Derived.Test.YtnhbmabikngmpaaDoorZF3
import Derived.Test.YtnhbmabikngmpaaDoorZF4
import Derived.Test.YtnhbmabikngmpaaDoorZGZ0
import Derived.Test.YtnhbmabikngmpaaDoorZGZ1
import Derived.Test.YtnhbmabikngmpaaDoorZGZ2
import Derived.Test.YtnhbmabikngmpaaDoorZGZ3
import Derived.Test.YtnhbmabikngmpaaDoorZGZ4
set_option linter.unusedVariables false
set_option linter.unusedSimpArgs false
set_option maxRecDepth 100000
namespace Go.Proofs.YtnhbmabikngmpaaDoorZ
open Go Go.Proofs.YtnhbmabikngmpaaDoorZ.V
theorem rlook_any (s e : Int) (m m' : Bool) : Runs Tryd.prog env 8 [.pure m (.int .i64 s), .pure m' (.int .i64 e)] [] (rlookR (cellI s e)) (rlookS (cellI s e)) := by
  unfold cellI
  by_cases h : 0 ≤ s ∧ s ≤ 9 ∧ 1 ≤ e ∧ e ≤ 16
  · rw [if_pos h]
    obtain ⟨h1, h2, h3, h4⟩ := h
    obtain ⟨t, rfl⟩ : ∃ t : Nat, s = t := ⟨s.toNat, by omega⟩
    obtain ⟨f, rfl⟩ : ∃ t : Nat, e = t := ⟨e.toNat, by omega⟩
    show Runs _ _ _ _ _ (rlookR (cellT t f)) (rlookS (cellT t f))
    have h5 : t = 0 ∨ t = 1 ∨ t = 2 ∨ t = 3 ∨ t = 4 ∨ t = 5 ∨ t = 6 ∨ t = 7 ∨ t = 8 ∨ t = 9 := by omega
    rcases h5 with rfl | rfl | rfl | rfl | rfl | rfl | rfl | rfl | rfl | rfl
    · exact rlookRow_0 f (by omega) (by omega) m m'
    · exact rlookRow_1 f (by omega) (by omega) m m'
    · exact rlookRow_2 f (by omega) (by omega) m m'
    · exact rlookRow_3 f (by omega) (by omega) m m'
    · exact rlookRow_4 f (by omega) (by omega) m m'
    · exact rlookRow_5 f (by omega) (by omega) m m'
    · exact rlookRow_6 f (by omega) (by omega) m m'
    · exact rlookRow_7 f (by omega) (by omega) m m'
    · exact rlookRow_8 f (by omega) (by omega) m m'
    · exact rlookRow_9 f (by omega) (by omega) m m'
  · rw [if_neg h]
    exact refLookOut_any s e h m m'
theorem lookz_any (s e : Int) : ∃ f, Runs Tryd.prog env 7 [.pure false (.int .i64 s), .pure false (.int .i64 e)] [] (lookZR f (cellI s e)) (lookZS (cellI s e)) := by
  unfold cellI
  by_cases h : 0 ≤ s ∧ s ≤ 9 ∧ 1 ≤ e ∧ e ≤ 16
  · rw [if_pos h]
    obtain ⟨h1, h2, h3, h4⟩ := h
    obtain ⟨t, rfl⟩ : ∃ t : Nat, s = t := ⟨s.toNat, by omega⟩
    obtain ⟨f, rfl⟩ : ∃ t : Nat, e = t := ⟨e.toNat, by omega⟩
    show ∃ q, Runs _ _ _ _ _ (lookZR q (cellT t f)) (lookZS (cellT t f))
    have h5 : t = 0 ∨ t = 1 ∨ t = 2 ∨ t = 3 ∨ t = 4 ∨ t = 5 ∨ t = 6 ∨ t = 7 ∨ t = 8 ∨ t = 9 := by omega
    rcases h5 with rfl | rfl | rfl | rfl | rfl | rfl | rfl | rfl | rfl | rfl
    · exact lookzRow_0 f (by omega) (by omega)
    · exact lookzRow_1 f (by omega) (by omega)
    · exact lookzRow_2 f (by omega) (by omega)
    · exact lookzRow_3 f (by omega) (by omega)
    · exact lookzRow_4 f (by omega) (by omega)
    · exact lookzRow_5 f (by omega) (by omega)
    · exact lookzRow_6 f (by omega) (by omega)
    · exact lookzRow_7 f (by omega) (by omega)
    · exact lookzRow_8 f (by omega) (by omega)
    · exact lookzRow_9 f (by omega) (by omega)
  · rw [if_neg h]
    exact ⟨true, lookOut_any s e h false false⟩
def evT : List (List Nat) := [[1, 3, 4], [1, 3, 4], [2, 3, 4, 7, 8, 9, 10, 11, 12, 13, 14, 15, 16], [2, 3, 4, 7, 8, 9, 10, 11, 12, 13, 14, 15, 16], [2, 3, 4, 5, 6, 7, 8, 9, 10, 11, 12, 13, 14, 15, 16], [2, 3, 4, 5, 6, 7, 8, 9, 10, 11, 12, 13, 14, 15, 16], [2, 3, 4, 5, 6, 7, 8, 9, 10, 11, 12, 13, 14, 15, 16], [2, 3, 4, 5, 6, 7, 8, 9, 10, 11, 12, 13, 14, 15, 16], [2, 3, 4, 5, 6, 7, 8, 9, 10, 11, 12, 13, 14, 15, 16], [2, 3, 4, 7, 8, 9, 10, 11, 12, 13, 14, 15, 16]]
def evL (s : Nat) : List Nat := (evT[s]?).getD []
theorem ev_any (s : Nat) (h : s ≤ 9) (m : Bool) : Runs Tryd.prog env 10 [.pure m (.int .i64 s)] [] (.row 0 (evL s).length) [(0, .row true 1 0 (intsOf (evL s)))] := by
  have h2 : s = 0 ∨ s = 1 ∨ s = 2 ∨ s = 3 ∨ s = 4 ∨ s = 5 ∨ s = 6 ∨ s = 7 ∨ s = 8 ∨ s = 9 := by omega
  rcases h2 with rfl | rfl | rfl | rfl | rfl | rfl | rfl | rfl | rfl | rfl
  · exact ev_0 m
  · exact ev_1 m
  · exact ev_2 m
  · exact ev_3 m
  · exact ev_4 m
  · exact ev_5 m
  · exact ev_6 m
  · exact ev_7 m
  · exact ev_8 m
  · exact ev_9 m
end Go.Proofs.YtnhbmabikngmpaaDoorZ
