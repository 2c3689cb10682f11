/- YtkjoolmkgpmlfaaDoorZGZ0: the program's table, cells of the states 0 and 1, each by the evaluator, rows kept as rows. No claim. -/
import Derived.Test.YtkjoolmkgpmlfaaDoorZT
set_option linter.unusedVariables false
set_option linter.unusedSimpArgs false
set_option maxRecDepth 100000
namespace Go.Proofs.YtkjoolmkgpmlfaaDoorZ
open Go Go.Proofs.YtkjoolmkgpmlfaaDoorZ.V
theorem lookz_0_1 : Runs Tryd.prog env 16 [.pure false (.int .i64 (0 : Nat)), .pure false (.int .i64 (1 : Nat))] [] (lookZR false (cellT 0 1)) (lookZS (cellT 0 1)) := ⟨200, by kernel_rfl⟩
theorem lookz_0_2 : Runs Tryd.prog env 16 [.pure false (.int .i64 (0 : Nat)), .pure false (.int .i64 (2 : Nat))] [] (lookZR true (cellT 0 2)) (lookZS (cellT 0 2)) := ⟨200, by kernel_rfl⟩
theorem lookz_0_3 : Runs Tryd.prog env 16 [.pure false (.int .i64 (0 : Nat)), .pure false (.int .i64 (3 : Nat))] [] (lookZR true (cellT 0 3)) (lookZS (cellT 0 3)) := ⟨200, by kernel_rfl⟩
theorem lookz_0_4 : Runs Tryd.prog env 16 [.pure false (.int .i64 (0 : Nat)), .pure false (.int .i64 (4 : Nat))] [] (lookZR false (cellT 0 4)) (lookZS (cellT 0 4)) := ⟨200, by kernel_rfl⟩
theorem lookz_0_5 : Runs Tryd.prog env 16 [.pure false (.int .i64 (0 : Nat)), .pure false (.int .i64 (5 : Nat))] [] (lookZR true (cellT 0 5)) (lookZS (cellT 0 5)) := ⟨200, by kernel_rfl⟩
theorem lookz_0_6 : Runs Tryd.prog env 16 [.pure false (.int .i64 (0 : Nat)), .pure false (.int .i64 (6 : Nat))] [] (lookZR true (cellT 0 6)) (lookZS (cellT 0 6)) := ⟨200, by kernel_rfl⟩
theorem lookz_0_7 : Runs Tryd.prog env 16 [.pure false (.int .i64 (0 : Nat)), .pure false (.int .i64 (7 : Nat))] [] (lookZR true (cellT 0 7)) (lookZS (cellT 0 7)) := ⟨200, by kernel_rfl⟩
theorem lookz_0_8 : Runs Tryd.prog env 16 [.pure false (.int .i64 (0 : Nat)), .pure false (.int .i64 (8 : Nat))] [] (lookZR true (cellT 0 8)) (lookZS (cellT 0 8)) := ⟨200, by kernel_rfl⟩
theorem lookz_0_9 : Runs Tryd.prog env 16 [.pure false (.int .i64 (0 : Nat)), .pure false (.int .i64 (9 : Nat))] [] (lookZR true (cellT 0 9)) (lookZS (cellT 0 9)) := ⟨200, by kernel_rfl⟩
theorem lookz_0_10 : Runs Tryd.prog env 16 [.pure false (.int .i64 (0 : Nat)), .pure false (.int .i64 (10 : Nat))] [] (lookZR true (cellT 0 10)) (lookZS (cellT 0 10)) := ⟨200, by kernel_rfl⟩
theorem lookz_0_11 : Runs Tryd.prog env 16 [.pure false (.int .i64 (0 : Nat)), .pure false (.int .i64 (11 : Nat))] [] (lookZR true (cellT 0 11)) (lookZS (cellT 0 11)) := ⟨200, by kernel_rfl⟩
theorem lookz_0_12 : Runs Tryd.prog env 16 [.pure false (.int .i64 (0 : Nat)), .pure false (.int .i64 (12 : Nat))] [] (lookZR true (cellT 0 12)) (lookZS (cellT 0 12)) := ⟨200, by kernel_rfl⟩
theorem lookz_0_13 : Runs Tryd.prog env 16 [.pure false (.int .i64 (0 : Nat)), .pure false (.int .i64 (13 : Nat))] [] (lookZR true (cellT 0 13)) (lookZS (cellT 0 13)) := ⟨200, by kernel_rfl⟩
theorem lookz_0_14 : Runs Tryd.prog env 16 [.pure false (.int .i64 (0 : Nat)), .pure false (.int .i64 (14 : Nat))] [] (lookZR true (cellT 0 14)) (lookZS (cellT 0 14)) := ⟨200, by kernel_rfl⟩
theorem lookz_0_15 : Runs Tryd.prog env 16 [.pure false (.int .i64 (0 : Nat)), .pure false (.int .i64 (15 : Nat))] [] (lookZR true (cellT 0 15)) (lookZS (cellT 0 15)) := ⟨200, by kernel_rfl⟩
theorem lookz_0_16 : Runs Tryd.prog env 16 [.pure false (.int .i64 (0 : Nat)), .pure false (.int .i64 (16 : Nat))] [] (lookZR true (cellT 0 16)) (lookZS (cellT 0 16)) := ⟨200, by kernel_rfl⟩
theorem lookzRow_0 (e : Nat) (h1 : 1 ≤ e) (h2 : e ≤ 16) : ∃ f, Runs Tryd.prog env 16 [.pure false (.int .i64 (0 : Nat)), .pure false (.int .i64 e)] [] (lookZR f (cellT 0 e)) (lookZS (cellT 0 e)) := by
  have h3 : e = 1 ∨ e = 2 ∨ e = 3 ∨ e = 4 ∨ e = 5 ∨ e = 6 ∨ e = 7 ∨ e = 8 ∨ e = 9 ∨ e = 10 ∨ e = 11 ∨ e = 12 ∨ e = 13 ∨ e = 14 ∨ e = 15 ∨ e = 16 := by omega
  rcases h3 with rfl | rfl | rfl | rfl | rfl | rfl | rfl | rfl | rfl | rfl | rfl | rfl | rfl | rfl | rfl | rfl
  · exact ⟨_, lookz_0_1⟩
  · exact ⟨_, lookz_0_2⟩
  · exact ⟨_, lookz_0_3⟩
  · exact ⟨_, lookz_0_4⟩
  · exact ⟨_, lookz_0_5⟩
  · exact ⟨_, lookz_0_6⟩
  · exact ⟨_, lookz_0_7⟩
  · exact ⟨_, lookz_0_8⟩
  · exact ⟨_, lookz_0_9⟩
  · exact ⟨_, lookz_0_10⟩
  · exact ⟨_, lookz_0_11⟩
  · exact ⟨_, lookz_0_12⟩
  · exact ⟨_, lookz_0_13⟩
  · exact ⟨_, lookz_0_14⟩
  · exact ⟨_, lookz_0_15⟩
  · exact ⟨_, lookz_0_16⟩
theorem lookz_1_1 : Runs Tryd.prog env 16 [.pure false (.int .i64 (1 : Nat)), .pure false (.int .i64 (1 : Nat))] [] (lookZR true (cellT 1 1)) (lookZS (cellT 1 1)) := ⟨200, by kernel_rfl⟩
theorem lookz_1_2 : Runs Tryd.prog env 16 [.pure false (.int .i64 (1 : Nat)), .pure false (.int .i64 (2 : Nat))] [] (lookZR true (cellT 1 2)) (lookZS (cellT 1 2)) := ⟨200, by kernel_rfl⟩
theorem lookz_1_3 : Runs Tryd.prog env 16 [.pure false (.int .i64 (1 : Nat)), .pure false (.int .i64 (3 : Nat))] [] (lookZR false (cellT 1 3)) (lookZS (cellT 1 3)) := ⟨200, by kernel_rfl⟩
theorem lookz_1_4 : Runs Tryd.prog env 16 [.pure false (.int .i64 (1 : Nat)), .pure false (.int .i64 (4 : Nat))] [] (lookZR true (cellT 1 4)) (lookZS (cellT 1 4)) := ⟨200, by kernel_rfl⟩
theorem lookz_1_5 : Runs Tryd.prog env 16 [.pure false (.int .i64 (1 : Nat)), .pure false (.int .i64 (5 : Nat))] [] (lookZR true (cellT 1 5)) (lookZS (cellT 1 5)) := ⟨200, by kernel_rfl⟩
theorem lookz_1_6 : Runs Tryd.prog env 16 [.pure false (.int .i64 (1 : Nat)), .pure false (.int .i64 (6 : Nat))] [] (lookZR true (cellT 1 6)) (lookZS (cellT 1 6)) := ⟨200, by kernel_rfl⟩
theorem lookz_1_7 : Runs Tryd.prog env 16 [.pure false (.int .i64 (1 : Nat)), .pure false (.int .i64 (7 : Nat))] [] (lookZR true (cellT 1 7)) (lookZS (cellT 1 7)) := ⟨200, by kernel_rfl⟩
theorem lookz_1_8 : Runs Tryd.prog env 16 [.pure false (.int .i64 (1 : Nat)), .pure false (.int .i64 (8 : Nat))] [] (lookZR true (cellT 1 8)) (lookZS (cellT 1 8)) := ⟨200, by kernel_rfl⟩
theorem lookz_1_9 : Runs Tryd.prog env 16 [.pure false (.int .i64 (1 : Nat)), .pure false (.int .i64 (9 : Nat))] [] (lookZR true (cellT 1 9)) (lookZS (cellT 1 9)) := ⟨200, by kernel_rfl⟩
theorem lookz_1_10 : Runs Tryd.prog env 16 [.pure false (.int .i64 (1 : Nat)), .pure false (.int .i64 (10 : Nat))] [] (lookZR true (cellT 1 10)) (lookZS (cellT 1 10)) := ⟨200, by kernel_rfl⟩
theorem lookz_1_11 : Runs Tryd.prog env 16 [.pure false (.int .i64 (1 : Nat)), .pure false (.int .i64 (11 : Nat))] [] (lookZR true (cellT 1 11)) (lookZS (cellT 1 11)) := ⟨200, by kernel_rfl⟩
theorem lookz_1_12 : Runs Tryd.prog env 16 [.pure false (.int .i64 (1 : Nat)), .pure false (.int .i64 (12 : Nat))] [] (lookZR true (cellT 1 12)) (lookZS (cellT 1 12)) := ⟨200, by kernel_rfl⟩
theorem lookz_1_13 : Runs Tryd.prog env 16 [.pure false (.int .i64 (1 : Nat)), .pure false (.int .i64 (13 : Nat))] [] (lookZR true (cellT 1 13)) (lookZS (cellT 1 13)) := ⟨200, by kernel_rfl⟩
theorem lookz_1_14 : Runs Tryd.prog env 16 [.pure false (.int .i64 (1 : Nat)), .pure false (.int .i64 (14 : Nat))] [] (lookZR true (cellT 1 14)) (lookZS (cellT 1 14)) := ⟨200, by kernel_rfl⟩
theorem lookz_1_15 : Runs Tryd.prog env 16 [.pure false (.int .i64 (1 : Nat)), .pure false (.int .i64 (15 : Nat))] [] (lookZR true (cellT 1 15)) (lookZS (cellT 1 15)) := ⟨200, by kernel_rfl⟩
theorem lookz_1_16 : Runs Tryd.prog env 16 [.pure false (.int .i64 (1 : Nat)), .pure false (.int .i64 (16 : Nat))] [] (lookZR true (cellT 1 16)) (lookZS (cellT 1 16)) := ⟨200, by kernel_rfl⟩
theorem lookzRow_1 (e : Nat) (h1 : 1 ≤ e) (h2 : e ≤ 16) : ∃ f, Runs Tryd.prog env 16 [.pure false (.int .i64 (1 : Nat)), .pure false (.int .i64 e)] [] (lookZR f (cellT 1 e)) (lookZS (cellT 1 e)) := by
  have h3 : e = 1 ∨ e = 2 ∨ e = 3 ∨ e = 4 ∨ e = 5 ∨ e = 6 ∨ e = 7 ∨ e = 8 ∨ e = 9 ∨ e = 10 ∨ e = 11 ∨ e = 12 ∨ e = 13 ∨ e = 14 ∨ e = 15 ∨ e = 16 := by omega
  rcases h3 with rfl | rfl | rfl | rfl | rfl | rfl | rfl | rfl | rfl | rfl | rfl | rfl | rfl | rfl | rfl | rfl
  · exact ⟨_, lookz_1_1⟩
  · exact ⟨_, lookz_1_2⟩
  · exact ⟨_, lookz_1_3⟩
  · exact ⟨_, lookz_1_4⟩
  · exact ⟨_, lookz_1_5⟩
  · exact ⟨_, lookz_1_6⟩
  · exact ⟨_, lookz_1_7⟩
  · exact ⟨_, lookz_1_8⟩
  · exact ⟨_, lookz_1_9⟩
  · exact ⟨_, lookz_1_10⟩
  · exact ⟨_, lookz_1_11⟩
  · exact ⟨_, lookz_1_12⟩
  · exact ⟨_, lookz_1_13⟩
  · exact ⟨_, lookz_1_14⟩
  · exact ⟨_, lookz_1_15⟩
  · exact ⟨_, lookz_1_16⟩
end Go.Proofs.YtkjoolmkgpmlfaaDoorZ
