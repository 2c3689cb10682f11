/- YtkjoolmkgpmlfaaDoorZGZ4: the program's table, cells of the states 8 and 9, each by the evaluator, rows kept as rows. No claim. -/
import Derived.Test.YtkjoolmkgpmlfaaDoorZT
set_option linter.unusedVariables false
set_option linter.unusedSimpArgs false
set_option maxRecDepth 100000
namespace Go.Proofs.YtkjoolmkgpmlfaaDoorZ
open Go Go.Proofs.YtkjoolmkgpmlfaaDoorZ.V
theorem lookz_8_1 : Runs Tryd.prog env 16 [.pure false (.int .i64 (8 : Nat)), .pure false (.int .i64 (1 : Nat))] [] (lookZR true (cellT 8 1)) (lookZS (cellT 8 1)) := ⟨200, by kernel_rfl⟩
theorem lookz_8_2 : Runs Tryd.prog env 16 [.pure false (.int .i64 (8 : Nat)), .pure false (.int .i64 (2 : Nat))] [] (lookZR false (cellT 8 2)) (lookZS (cellT 8 2)) := ⟨200, by kernel_rfl⟩
theorem lookz_8_3 : Runs Tryd.prog env 16 [.pure false (.int .i64 (8 : Nat)), .pure false (.int .i64 (3 : Nat))] [] (lookZR false (cellT 8 3)) (lookZS (cellT 8 3)) := ⟨200, by kernel_rfl⟩
theorem lookz_8_4 : Runs Tryd.prog env 16 [.pure false (.int .i64 (8 : Nat)), .pure false (.int .i64 (4 : Nat))] [] (lookZR true (cellT 8 4)) (lookZS (cellT 8 4)) := ⟨200, by kernel_rfl⟩
theorem lookz_8_5 : Runs Tryd.prog env 16 [.pure false (.int .i64 (8 : Nat)), .pure false (.int .i64 (5 : Nat))] [] (lookZR false (cellT 8 5)) (lookZS (cellT 8 5)) := ⟨200, by kernel_rfl⟩
theorem lookz_8_6 : Runs Tryd.prog env 16 [.pure false (.int .i64 (8 : Nat)), .pure false (.int .i64 (6 : Nat))] [] (lookZR true (cellT 8 6)) (lookZS (cellT 8 6)) := ⟨200, by kernel_rfl⟩
theorem lookz_8_7 : Runs Tryd.prog env 16 [.pure false (.int .i64 (8 : Nat)), .pure false (.int .i64 (7 : Nat))] [] (lookZR true (cellT 8 7)) (lookZS (cellT 8 7)) := ⟨200, by kernel_rfl⟩
theorem lookz_8_8 : Runs Tryd.prog env 16 [.pure false (.int .i64 (8 : Nat)), .pure false (.int .i64 (8 : Nat))] [] (lookZR true (cellT 8 8)) (lookZS (cellT 8 8)) := ⟨200, by kernel_rfl⟩
theorem lookz_8_9 : Runs Tryd.prog env 16 [.pure false (.int .i64 (8 : Nat)), .pure false (.int .i64 (9 : Nat))] [] (lookZR true (cellT 8 9)) (lookZS (cellT 8 9)) := ⟨200, by kernel_rfl⟩
theorem lookz_8_10 : Runs Tryd.prog env 16 [.pure false (.int .i64 (8 : Nat)), .pure false (.int .i64 (10 : Nat))] [] (lookZR false (cellT 8 10)) (lookZS (cellT 8 10)) := ⟨200, by kernel_rfl⟩
theorem lookz_8_11 : Runs Tryd.prog env 16 [.pure false (.int .i64 (8 : Nat)), .pure false (.int .i64 (11 : Nat))] [] (lookZR true (cellT 8 11)) (lookZS (cellT 8 11)) := ⟨200, by kernel_rfl⟩
theorem lookz_8_12 : Runs Tryd.prog env 16 [.pure false (.int .i64 (8 : Nat)), .pure false (.int .i64 (12 : Nat))] [] (lookZR false (cellT 8 12)) (lookZS (cellT 8 12)) := ⟨200, by kernel_rfl⟩
theorem lookz_8_13 : Runs Tryd.prog env 16 [.pure false (.int .i64 (8 : Nat)), .pure false (.int .i64 (13 : Nat))] [] (lookZR false (cellT 8 13)) (lookZS (cellT 8 13)) := ⟨200, by kernel_rfl⟩
theorem lookz_8_14 : Runs Tryd.prog env 16 [.pure false (.int .i64 (8 : Nat)), .pure false (.int .i64 (14 : Nat))] [] (lookZR false (cellT 8 14)) (lookZS (cellT 8 14)) := ⟨200, by kernel_rfl⟩
theorem lookz_8_15 : Runs Tryd.prog env 16 [.pure false (.int .i64 (8 : Nat)), .pure false (.int .i64 (15 : Nat))] [] (lookZR true (cellT 8 15)) (lookZS (cellT 8 15)) := ⟨200, by kernel_rfl⟩
theorem lookz_8_16 : Runs Tryd.prog env 16 [.pure false (.int .i64 (8 : Nat)), .pure false (.int .i64 (16 : Nat))] [] (lookZR false (cellT 8 16)) (lookZS (cellT 8 16)) := ⟨200, by kernel_rfl⟩
theorem lookzRow_8 (e : Nat) (h1 : 1 ≤ e) (h2 : e ≤ 16) : ∃ f, Runs Tryd.prog env 16 [.pure false (.int .i64 (8 : Nat)), .pure false (.int .i64 e)] [] (lookZR f (cellT 8 e)) (lookZS (cellT 8 e)) := by
  have h3 : e = 1 ∨ e = 2 ∨ e = 3 ∨ e = 4 ∨ e = 5 ∨ e = 6 ∨ e = 7 ∨ e = 8 ∨ e = 9 ∨ e = 10 ∨ e = 11 ∨ e = 12 ∨ e = 13 ∨ e = 14 ∨ e = 15 ∨ e = 16 := by omega
  rcases h3 with rfl | rfl | rfl | rfl | rfl | rfl | rfl | rfl | rfl | rfl | rfl | rfl | rfl | rfl | rfl | rfl
  · exact ⟨_, lookz_8_1⟩
  · exact ⟨_, lookz_8_2⟩
  · exact ⟨_, lookz_8_3⟩
  · exact ⟨_, lookz_8_4⟩
  · exact ⟨_, lookz_8_5⟩
  · exact ⟨_, lookz_8_6⟩
  · exact ⟨_, lookz_8_7⟩
  · exact ⟨_, lookz_8_8⟩
  · exact ⟨_, lookz_8_9⟩
  · exact ⟨_, lookz_8_10⟩
  · exact ⟨_, lookz_8_11⟩
  · exact ⟨_, lookz_8_12⟩
  · exact ⟨_, lookz_8_13⟩
  · exact ⟨_, lookz_8_14⟩
  · exact ⟨_, lookz_8_15⟩
  · exact ⟨_, lookz_8_16⟩
theorem lookz_9_1 : Runs Tryd.prog env 16 [.pure false (.int .i64 (9 : Nat)), .pure false (.int .i64 (1 : Nat))] [] (lookZR true (cellT 9 1)) (lookZS (cellT 9 1)) := ⟨200, by kernel_rfl⟩
theorem lookz_9_2 : Runs Tryd.prog env 16 [.pure false (.int .i64 (9 : Nat)), .pure false (.int .i64 (2 : Nat))] [] (lookZR true (cellT 9 2)) (lookZS (cellT 9 2)) := ⟨200, by kernel_rfl⟩
theorem lookz_9_3 : Runs Tryd.prog env 16 [.pure false (.int .i64 (9 : Nat)), .pure false (.int .i64 (3 : Nat))] [] (lookZR false (cellT 9 3)) (lookZS (cellT 9 3)) := ⟨200, by kernel_rfl⟩
theorem lookz_9_4 : Runs Tryd.prog env 16 [.pure false (.int .i64 (9 : Nat)), .pure false (.int .i64 (4 : Nat))] [] (lookZR true (cellT 9 4)) (lookZS (cellT 9 4)) := ⟨200, by kernel_rfl⟩
theorem lookz_9_5 : Runs Tryd.prog env 16 [.pure false (.int .i64 (9 : Nat)), .pure false (.int .i64 (5 : Nat))] [] (lookZR true (cellT 9 5)) (lookZS (cellT 9 5)) := ⟨200, by kernel_rfl⟩
theorem lookz_9_6 : Runs Tryd.prog env 16 [.pure false (.int .i64 (9 : Nat)), .pure false (.int .i64 (6 : Nat))] [] (lookZR true (cellT 9 6)) (lookZS (cellT 9 6)) := ⟨200, by kernel_rfl⟩
theorem lookz_9_7 : Runs Tryd.prog env 16 [.pure false (.int .i64 (9 : Nat)), .pure false (.int .i64 (7 : Nat))] [] (lookZR true (cellT 9 7)) (lookZS (cellT 9 7)) := ⟨200, by kernel_rfl⟩
theorem lookz_9_8 : Runs Tryd.prog env 16 [.pure false (.int .i64 (9 : Nat)), .pure false (.int .i64 (8 : Nat))] [] (lookZR true (cellT 9 8)) (lookZS (cellT 9 8)) := ⟨200, by kernel_rfl⟩
theorem lookz_9_9 : Runs Tryd.prog env 16 [.pure false (.int .i64 (9 : Nat)), .pure false (.int .i64 (9 : Nat))] [] (lookZR true (cellT 9 9)) (lookZS (cellT 9 9)) := ⟨200, by kernel_rfl⟩
theorem lookz_9_10 : Runs Tryd.prog env 16 [.pure false (.int .i64 (9 : Nat)), .pure false (.int .i64 (10 : Nat))] [] (lookZR true (cellT 9 10)) (lookZS (cellT 9 10)) := ⟨200, by kernel_rfl⟩
theorem lookz_9_11 : Runs Tryd.prog env 16 [.pure false (.int .i64 (9 : Nat)), .pure false (.int .i64 (11 : Nat))] [] (lookZR true (cellT 9 11)) (lookZS (cellT 9 11)) := ⟨200, by kernel_rfl⟩
theorem lookz_9_12 : Runs Tryd.prog env 16 [.pure false (.int .i64 (9 : Nat)), .pure false (.int .i64 (12 : Nat))] [] (lookZR true (cellT 9 12)) (lookZS (cellT 9 12)) := ⟨200, by kernel_rfl⟩
theorem lookz_9_13 : Runs Tryd.prog env 16 [.pure false (.int .i64 (9 : Nat)), .pure false (.int .i64 (13 : Nat))] [] (lookZR false (cellT 9 13)) (lookZS (cellT 9 13)) := ⟨200, by kernel_rfl⟩
theorem lookz_9_14 : Runs Tryd.prog env 16 [.pure false (.int .i64 (9 : Nat)), .pure false (.int .i64 (14 : Nat))] [] (lookZR false (cellT 9 14)) (lookZS (cellT 9 14)) := ⟨200, by kernel_rfl⟩
theorem lookz_9_15 : Runs Tryd.prog env 16 [.pure false (.int .i64 (9 : Nat)), .pure false (.int .i64 (15 : Nat))] [] (lookZR true (cellT 9 15)) (lookZS (cellT 9 15)) := ⟨200, by kernel_rfl⟩
theorem lookz_9_16 : Runs Tryd.prog env 16 [.pure false (.int .i64 (9 : Nat)), .pure false (.int .i64 (16 : Nat))] [] (lookZR false (cellT 9 16)) (lookZS (cellT 9 16)) := ⟨200, by kernel_rfl⟩
theorem lookzRow_9 (e : Nat) (h1 : 1 ≤ e) (h2 : e ≤ 16) : ∃ f, Runs Tryd.prog env 16 [.pure false (.int .i64 (9 : Nat)), .pure false (.int .i64 e)] [] (lookZR f (cellT 9 e)) (lookZS (cellT 9 e)) := by
  have h3 : e = 1 ∨ e = 2 ∨ e = 3 ∨ e = 4 ∨ e = 5 ∨ e = 6 ∨ e = 7 ∨ e = 8 ∨ e = 9 ∨ e = 10 ∨ e = 11 ∨ e = 12 ∨ e = 13 ∨ e = 14 ∨ e = 15 ∨ e = 16 := by omega
  rcases h3 with rfl | rfl | rfl | rfl | rfl | rfl | rfl | rfl | rfl | rfl | rfl | rfl | rfl | rfl | rfl | rfl
  · exact ⟨_, lookz_9_1⟩
  · exact ⟨_, lookz_9_2⟩
  · exact ⟨_, lookz_9_3⟩
  · exact ⟨_, lookz_9_4⟩
  · exact ⟨_, lookz_9_5⟩
  · exact ⟨_, lookz_9_6⟩
  · exact ⟨_, lookz_9_7⟩
  · exact ⟨_, lookz_9_8⟩
  · exact ⟨_, lookz_9_9⟩
  · exact ⟨_, lookz_9_10⟩
  · exact ⟨_, lookz_9_11⟩
  · exact ⟨_, lookz_9_12⟩
  · exact ⟨_, lookz_9_13⟩
  · exact ⟨_, lookz_9_14⟩
  · exact ⟨_, lookz_9_15⟩
  · exact ⟨_, lookz_9_16⟩
end Go.Proofs.YtkjoolmkgpmlfaaDoorZ
