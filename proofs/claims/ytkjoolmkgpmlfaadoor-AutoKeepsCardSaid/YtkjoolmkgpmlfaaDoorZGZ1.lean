/- YtkjoolmkgpmlfaaDoorZGZ1: the program's table, cells of the states 2 and 3, each by the evaluator, rows kept as rows. No claim. -/
import Derived.Test.YtkjoolmkgpmlfaaDoorZT
set_option linter.unusedVariables false
set_option linter.unusedSimpArgs false
set_option maxRecDepth 100000
namespace Go.Proofs.YtkjoolmkgpmlfaaDoorZ
open Go Go.Proofs.YtkjoolmkgpmlfaaDoorZ.V
theorem lookz_2_1 : Runs Tryd.prog env 16 [.pure false (.int .i64 (2 : Nat)), .pure false (.int .i64 (1 : Nat))] [] (lookZR true (cellT 2 1)) (lookZS (cellT 2 1)) := ⟨200, by kernel_rfl⟩
theorem lookz_2_2 : Runs Tryd.prog env 16 [.pure false (.int .i64 (2 : Nat)), .pure false (.int .i64 (2 : Nat))] [] (lookZR false (cellT 2 2)) (lookZS (cellT 2 2)) := ⟨200, by kernel_rfl⟩
theorem lookz_2_3 : Runs Tryd.prog env 16 [.pure false (.int .i64 (2 : Nat)), .pure false (.int .i64 (3 : Nat))] [] (lookZR true (cellT 2 3)) (lookZS (cellT 2 3)) := ⟨200, by kernel_rfl⟩
theorem lookz_2_4 : Runs Tryd.prog env 16 [.pure false (.int .i64 (2 : Nat)), .pure false (.int .i64 (4 : Nat))] [] (lookZR false (cellT 2 4)) (lookZS (cellT 2 4)) := ⟨200, by kernel_rfl⟩
theorem lookz_2_5 : Runs Tryd.prog env 16 [.pure false (.int .i64 (2 : Nat)), .pure false (.int .i64 (5 : Nat))] [] (lookZR true (cellT 2 5)) (lookZS (cellT 2 5)) := ⟨200, by kernel_rfl⟩
theorem lookz_2_6 : Runs Tryd.prog env 16 [.pure false (.int .i64 (2 : Nat)), .pure false (.int .i64 (6 : Nat))] [] (lookZR true (cellT 2 6)) (lookZS (cellT 2 6)) := ⟨200, by kernel_rfl⟩
theorem lookz_2_7 : Runs Tryd.prog env 16 [.pure false (.int .i64 (2 : Nat)), .pure false (.int .i64 (7 : Nat))] [] (lookZR false (cellT 2 7)) (lookZS (cellT 2 7)) := ⟨200, by kernel_rfl⟩
theorem lookz_2_8 : Runs Tryd.prog env 16 [.pure false (.int .i64 (2 : Nat)), .pure false (.int .i64 (8 : Nat))] [] (lookZR false (cellT 2 8)) (lookZS (cellT 2 8)) := ⟨200, by kernel_rfl⟩
theorem lookz_2_9 : Runs Tryd.prog env 16 [.pure false (.int .i64 (2 : Nat)), .pure false (.int .i64 (9 : Nat))] [] (lookZR false (cellT 2 9)) (lookZS (cellT 2 9)) := ⟨200, by kernel_rfl⟩
theorem lookz_2_10 : Runs Tryd.prog env 16 [.pure false (.int .i64 (2 : Nat)), .pure false (.int .i64 (10 : Nat))] [] (lookZR false (cellT 2 10)) (lookZS (cellT 2 10)) := ⟨200, by kernel_rfl⟩
theorem lookz_2_11 : Runs Tryd.prog env 16 [.pure false (.int .i64 (2 : Nat)), .pure false (.int .i64 (11 : Nat))] [] (lookZR false (cellT 2 11)) (lookZS (cellT 2 11)) := ⟨200, by kernel_rfl⟩
theorem lookz_2_12 : Runs Tryd.prog env 16 [.pure false (.int .i64 (2 : Nat)), .pure false (.int .i64 (12 : Nat))] [] (lookZR false (cellT 2 12)) (lookZS (cellT 2 12)) := ⟨200, by kernel_rfl⟩
theorem lookz_2_13 : Runs Tryd.prog env 16 [.pure false (.int .i64 (2 : Nat)), .pure false (.int .i64 (13 : Nat))] [] (lookZR false (cellT 2 13)) (lookZS (cellT 2 13)) := ⟨200, by kernel_rfl⟩
theorem lookz_2_14 : Runs Tryd.prog env 16 [.pure false (.int .i64 (2 : Nat)), .pure false (.int .i64 (14 : Nat))] [] (lookZR false (cellT 2 14)) (lookZS (cellT 2 14)) := ⟨200, by kernel_rfl⟩
theorem lookz_2_15 : Runs Tryd.prog env 16 [.pure false (.int .i64 (2 : Nat)), .pure false (.int .i64 (15 : Nat))] [] (lookZR true (cellT 2 15)) (lookZS (cellT 2 15)) := ⟨200, by kernel_rfl⟩
theorem lookz_2_16 : Runs Tryd.prog env 16 [.pure false (.int .i64 (2 : Nat)), .pure false (.int .i64 (16 : Nat))] [] (lookZR false (cellT 2 16)) (lookZS (cellT 2 16)) := ⟨200, by kernel_rfl⟩
theorem lookzRow_2 (e : Nat) (h1 : 1 ≤ e) (h2 : e ≤ 16) : ∃ f, Runs Tryd.prog env 16 [.pure false (.int .i64 (2 : Nat)), .pure false (.int .i64 e)] [] (lookZR f (cellT 2 e)) (lookZS (cellT 2 e)) := by
  have h3 : e = 1 ∨ e = 2 ∨ e = 3 ∨ e = 4 ∨ e = 5 ∨ e = 6 ∨ e = 7 ∨ e = 8 ∨ e = 9 ∨ e = 10 ∨ e = 11 ∨ e = 12 ∨ e = 13 ∨ e = 14 ∨ e = 15 ∨ e = 16 := by omega
  rcases h3 with rfl | rfl | rfl | rfl | rfl | rfl | rfl | rfl | rfl | rfl | rfl | rfl | rfl | rfl | rfl | rfl
  · exact ⟨_, lookz_2_1⟩
  · exact ⟨_, lookz_2_2⟩
  · exact ⟨_, lookz_2_3⟩
  · exact ⟨_, lookz_2_4⟩
  · exact ⟨_, lookz_2_5⟩
  · exact ⟨_, lookz_2_6⟩
  · exact ⟨_, lookz_2_7⟩
  · exact ⟨_, lookz_2_8⟩
  · exact ⟨_, lookz_2_9⟩
  · exact ⟨_, lookz_2_10⟩
  · exact ⟨_, lookz_2_11⟩
  · exact ⟨_, lookz_2_12⟩
  · exact ⟨_, lookz_2_13⟩
  · exact ⟨_, lookz_2_14⟩
  · exact ⟨_, lookz_2_15⟩
  · exact ⟨_, lookz_2_16⟩
theorem lookz_3_1 : Runs Tryd.prog env 16 [.pure false (.int .i64 (3 : Nat)), .pure false (.int .i64 (1 : Nat))] [] (lookZR true (cellT 3 1)) (lookZS (cellT 3 1)) := ⟨200, by kernel_rfl⟩
theorem lookz_3_2 : Runs Tryd.prog env 16 [.pure false (.int .i64 (3 : Nat)), .pure false (.int .i64 (2 : Nat))] [] (lookZR true (cellT 3 2)) (lookZS (cellT 3 2)) := ⟨200, by kernel_rfl⟩
theorem lookz_3_3 : Runs Tryd.prog env 16 [.pure false (.int .i64 (3 : Nat)), .pure false (.int .i64 (3 : Nat))] [] (lookZR false (cellT 3 3)) (lookZS (cellT 3 3)) := ⟨200, by kernel_rfl⟩
theorem lookz_3_4 : Runs Tryd.prog env 16 [.pure false (.int .i64 (3 : Nat)), .pure false (.int .i64 (4 : Nat))] [] (lookZR false (cellT 3 4)) (lookZS (cellT 3 4)) := ⟨200, by kernel_rfl⟩
theorem lookz_3_5 : Runs Tryd.prog env 16 [.pure false (.int .i64 (3 : Nat)), .pure false (.int .i64 (5 : Nat))] [] (lookZR true (cellT 3 5)) (lookZS (cellT 3 5)) := ⟨200, by kernel_rfl⟩
theorem lookz_3_6 : Runs Tryd.prog env 16 [.pure false (.int .i64 (3 : Nat)), .pure false (.int .i64 (6 : Nat))] [] (lookZR true (cellT 3 6)) (lookZS (cellT 3 6)) := ⟨200, by kernel_rfl⟩
theorem lookz_3_7 : Runs Tryd.prog env 16 [.pure false (.int .i64 (3 : Nat)), .pure false (.int .i64 (7 : Nat))] [] (lookZR true (cellT 3 7)) (lookZS (cellT 3 7)) := ⟨200, by kernel_rfl⟩
theorem lookz_3_8 : Runs Tryd.prog env 16 [.pure false (.int .i64 (3 : Nat)), .pure false (.int .i64 (8 : Nat))] [] (lookZR true (cellT 3 8)) (lookZS (cellT 3 8)) := ⟨200, by kernel_rfl⟩
theorem lookz_3_9 : Runs Tryd.prog env 16 [.pure false (.int .i64 (3 : Nat)), .pure false (.int .i64 (9 : Nat))] [] (lookZR false (cellT 3 9)) (lookZS (cellT 3 9)) := ⟨200, by kernel_rfl⟩
theorem lookz_3_10 : Runs Tryd.prog env 16 [.pure false (.int .i64 (3 : Nat)), .pure false (.int .i64 (10 : Nat))] [] (lookZR false (cellT 3 10)) (lookZS (cellT 3 10)) := ⟨200, by kernel_rfl⟩
theorem lookz_3_11 : Runs Tryd.prog env 16 [.pure false (.int .i64 (3 : Nat)), .pure false (.int .i64 (11 : Nat))] [] (lookZR false (cellT 3 11)) (lookZS (cellT 3 11)) := ⟨200, by kernel_rfl⟩
theorem lookz_3_12 : Runs Tryd.prog env 16 [.pure false (.int .i64 (3 : Nat)), .pure false (.int .i64 (12 : Nat))] [] (lookZR false (cellT 3 12)) (lookZS (cellT 3 12)) := ⟨200, by kernel_rfl⟩
theorem lookz_3_13 : Runs Tryd.prog env 16 [.pure false (.int .i64 (3 : Nat)), .pure false (.int .i64 (13 : Nat))] [] (lookZR false (cellT 3 13)) (lookZS (cellT 3 13)) := ⟨200, by kernel_rfl⟩
theorem lookz_3_14 : Runs Tryd.prog env 16 [.pure false (.int .i64 (3 : Nat)), .pure false (.int .i64 (14 : Nat))] [] (lookZR false (cellT 3 14)) (lookZS (cellT 3 14)) := ⟨200, by kernel_rfl⟩
theorem lookz_3_15 : Runs Tryd.prog env 16 [.pure false (.int .i64 (3 : Nat)), .pure false (.int .i64 (15 : Nat))] [] (lookZR true (cellT 3 15)) (lookZS (cellT 3 15)) := ⟨200, by kernel_rfl⟩
theorem lookz_3_16 : Runs Tryd.prog env 16 [.pure false (.int .i64 (3 : Nat)), .pure false (.int .i64 (16 : Nat))] [] (lookZR false (cellT 3 16)) (lookZS (cellT 3 16)) := ⟨200, by kernel_rfl⟩
theorem lookzRow_3 (e : Nat) (h1 : 1 ≤ e) (h2 : e ≤ 16) : ∃ f, Runs Tryd.prog env 16 [.pure false (.int .i64 (3 : Nat)), .pure false (.int .i64 e)] [] (lookZR f (cellT 3 e)) (lookZS (cellT 3 e)) := by
  have h3 : e = 1 ∨ e = 2 ∨ e = 3 ∨ e = 4 ∨ e = 5 ∨ e = 6 ∨ e = 7 ∨ e = 8 ∨ e = 9 ∨ e = 10 ∨ e = 11 ∨ e = 12 ∨ e = 13 ∨ e = 14 ∨ e = 15 ∨ e = 16 := by omega
  rcases h3 with rfl | rfl | rfl | rfl | rfl | rfl | rfl | rfl | rfl | rfl | rfl | rfl | rfl | rfl | rfl | rfl
  · exact ⟨_, lookz_3_1⟩
  · exact ⟨_, lookz_3_2⟩
  · exact ⟨_, lookz_3_3⟩
  · exact ⟨_, lookz_3_4⟩
  · exact ⟨_, lookz_3_5⟩
  · exact ⟨_, lookz_3_6⟩
  · exact ⟨_, lookz_3_7⟩
  · exact ⟨_, lookz_3_8⟩
  · exact ⟨_, lookz_3_9⟩
  · exact ⟨_, lookz_3_10⟩
  · exact ⟨_, lookz_3_11⟩
  · exact ⟨_, lookz_3_12⟩
  · exact ⟨_, lookz_3_13⟩
  · exact ⟨_, lookz_3_14⟩
  · exact ⟨_, lookz_3_15⟩
  · exact ⟨_, lookz_3_16⟩
end Go.Proofs.YtkjoolmkgpmlfaaDoorZ
