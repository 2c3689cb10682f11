/- YtkjoolmkgpmlfaaDoorZGZ2: the program's table, cells of the states 4 and 5, each by the evaluator, rows kept as rows. No claim. -/
import Derived.Test.YtkjoolmkgpmlfaaDoorZT
set_option linter.unusedVariables false
set_option linter.unusedSimpArgs false
set_option maxRecDepth 100000
namespace Go.Proofs.YtkjoolmkgpmlfaaDoorZ
open Go Go.Proofs.YtkjoolmkgpmlfaaDoorZ.V
theorem lookz_4_1 : Runs Tryd.prog env 16 [.pure false (.int .i64 (4 : Nat)), .pure false (.int .i64 (1 : Nat))] [] (lookZR true (cellT 4 1)) (lookZS (cellT 4 1)) := ⟨200, by kernel_rfl⟩
theorem lookz_4_2 : Runs Tryd.prog env 16 [.pure false (.int .i64 (4 : Nat)), .pure false (.int .i64 (2 : Nat))] [] (lookZR false (cellT 4 2)) (lookZS (cellT 4 2)) := ⟨200, by kernel_rfl⟩
theorem lookz_4_3 : Runs Tryd.prog env 16 [.pure false (.int .i64 (4 : Nat)), .pure false (.int .i64 (3 : Nat))] [] (lookZR false (cellT 4 3)) (lookZS (cellT 4 3)) := ⟨200, by kernel_rfl⟩
theorem lookz_4_4 : Runs Tryd.prog env 16 [.pure false (.int .i64 (4 : Nat)), .pure false (.int .i64 (4 : Nat))] [] (lookZR false (cellT 4 4)) (lookZS (cellT 4 4)) := ⟨200, by kernel_rfl⟩
theorem lookz_4_5 : Runs Tryd.prog env 16 [.pure false (.int .i64 (4 : Nat)), .pure false (.int .i64 (5 : Nat))] [] (lookZR false (cellT 4 5)) (lookZS (cellT 4 5)) := ⟨200, by kernel_rfl⟩
theorem lookz_4_6 : Runs Tryd.prog env 16 [.pure false (.int .i64 (4 : Nat)), .pure false (.int .i64 (6 : Nat))] [] (lookZR true (cellT 4 6)) (lookZS (cellT 4 6)) := ⟨200, by kernel_rfl⟩
theorem lookz_4_7 : Runs Tryd.prog env 16 [.pure false (.int .i64 (4 : Nat)), .pure false (.int .i64 (7 : Nat))] [] (lookZR false (cellT 4 7)) (lookZS (cellT 4 7)) := ⟨200, by kernel_rfl⟩
theorem lookz_4_8 : Runs Tryd.prog env 16 [.pure false (.int .i64 (4 : Nat)), .pure false (.int .i64 (8 : Nat))] [] (lookZR false (cellT 4 8)) (lookZS (cellT 4 8)) := ⟨200, by kernel_rfl⟩
theorem lookz_4_9 : Runs Tryd.prog env 16 [.pure false (.int .i64 (4 : Nat)), .pure false (.int .i64 (9 : Nat))] [] (lookZR false (cellT 4 9)) (lookZS (cellT 4 9)) := ⟨200, by kernel_rfl⟩
theorem lookz_4_10 : Runs Tryd.prog env 16 [.pure false (.int .i64 (4 : Nat)), .pure false (.int .i64 (10 : Nat))] [] (lookZR false (cellT 4 10)) (lookZS (cellT 4 10)) := ⟨200, by kernel_rfl⟩
theorem lookz_4_11 : Runs Tryd.prog env 16 [.pure false (.int .i64 (4 : Nat)), .pure false (.int .i64 (11 : Nat))] [] (lookZR false (cellT 4 11)) (lookZS (cellT 4 11)) := ⟨200, by kernel_rfl⟩
theorem lookz_4_12 : Runs Tryd.prog env 16 [.pure false (.int .i64 (4 : Nat)), .pure false (.int .i64 (12 : Nat))] [] (lookZR true (cellT 4 12)) (lookZS (cellT 4 12)) := ⟨200, by kernel_rfl⟩
theorem lookz_4_13 : Runs Tryd.prog env 16 [.pure false (.int .i64 (4 : Nat)), .pure false (.int .i64 (13 : Nat))] [] (lookZR false (cellT 4 13)) (lookZS (cellT 4 13)) := ⟨200, by kernel_rfl⟩
theorem lookz_4_14 : Runs Tryd.prog env 16 [.pure false (.int .i64 (4 : Nat)), .pure false (.int .i64 (14 : Nat))] [] (lookZR false (cellT 4 14)) (lookZS (cellT 4 14)) := ⟨200, by kernel_rfl⟩
theorem lookz_4_15 : Runs Tryd.prog env 16 [.pure false (.int .i64 (4 : Nat)), .pure false (.int .i64 (15 : Nat))] [] (lookZR true (cellT 4 15)) (lookZS (cellT 4 15)) := ⟨200, by kernel_rfl⟩
theorem lookz_4_16 : Runs Tryd.prog env 16 [.pure false (.int .i64 (4 : Nat)), .pure false (.int .i64 (16 : Nat))] [] (lookZR false (cellT 4 16)) (lookZS (cellT 4 16)) := ⟨200, by kernel_rfl⟩
theorem lookzRow_4 (e : Nat) (h1 : 1 ≤ e) (h2 : e ≤ 16) : ∃ f, Runs Tryd.prog env 16 [.pure false (.int .i64 (4 : Nat)), .pure false (.int .i64 e)] [] (lookZR f (cellT 4 e)) (lookZS (cellT 4 e)) := by
  have h3 : e = 1 ∨ e = 2 ∨ e = 3 ∨ e = 4 ∨ e = 5 ∨ e = 6 ∨ e = 7 ∨ e = 8 ∨ e = 9 ∨ e = 10 ∨ e = 11 ∨ e = 12 ∨ e = 13 ∨ e = 14 ∨ e = 15 ∨ e = 16 := by omega
  rcases h3 with rfl | rfl | rfl | rfl | rfl | rfl | rfl | rfl | rfl | rfl | rfl | rfl | rfl | rfl | rfl | rfl
  · exact ⟨_, lookz_4_1⟩
  · exact ⟨_, lookz_4_2⟩
  · exact ⟨_, lookz_4_3⟩
  · exact ⟨_, lookz_4_4⟩
  · exact ⟨_, lookz_4_5⟩
  · exact ⟨_, lookz_4_6⟩
  · exact ⟨_, lookz_4_7⟩
  · exact ⟨_, lookz_4_8⟩
  · exact ⟨_, lookz_4_9⟩
  · exact ⟨_, lookz_4_10⟩
  · exact ⟨_, lookz_4_11⟩
  · exact ⟨_, lookz_4_12⟩
  · exact ⟨_, lookz_4_13⟩
  · exact ⟨_, lookz_4_14⟩
  · exact ⟨_, lookz_4_15⟩
  · exact ⟨_, lookz_4_16⟩
theorem lookz_5_1 : Runs Tryd.prog env 16 [.pure false (.int .i64 (5 : Nat)), .pure false (.int .i64 (1 : Nat))] [] (lookZR true (cellT 5 1)) (lookZS (cellT 5 1)) := ⟨200, by kernel_rfl⟩
theorem lookz_5_2 : Runs Tryd.prog env 16 [.pure false (.int .i64 (5 : Nat)), .pure false (.int .i64 (2 : Nat))] [] (lookZR false (cellT 5 2)) (lookZS (cellT 5 2)) := ⟨200, by kernel_rfl⟩
theorem lookz_5_3 : Runs Tryd.prog env 16 [.pure false (.int .i64 (5 : Nat)), .pure false (.int .i64 (3 : Nat))] [] (lookZR false (cellT 5 3)) (lookZS (cellT 5 3)) := ⟨200, by kernel_rfl⟩
theorem lookz_5_4 : Runs Tryd.prog env 16 [.pure false (.int .i64 (5 : Nat)), .pure false (.int .i64 (4 : Nat))] [] (lookZR false (cellT 5 4)) (lookZS (cellT 5 4)) := ⟨200, by kernel_rfl⟩
theorem lookz_5_5 : Runs Tryd.prog env 16 [.pure false (.int .i64 (5 : Nat)), .pure false (.int .i64 (5 : Nat))] [] (lookZR false (cellT 5 5)) (lookZS (cellT 5 5)) := ⟨200, by kernel_rfl⟩
theorem lookz_5_6 : Runs Tryd.prog env 16 [.pure false (.int .i64 (5 : Nat)), .pure false (.int .i64 (6 : Nat))] [] (lookZR true (cellT 5 6)) (lookZS (cellT 5 6)) := ⟨200, by kernel_rfl⟩
theorem lookz_5_7 : Runs Tryd.prog env 16 [.pure false (.int .i64 (5 : Nat)), .pure false (.int .i64 (7 : Nat))] [] (lookZR false (cellT 5 7)) (lookZS (cellT 5 7)) := ⟨200, by kernel_rfl⟩
theorem lookz_5_8 : Runs Tryd.prog env 16 [.pure false (.int .i64 (5 : Nat)), .pure false (.int .i64 (8 : Nat))] [] (lookZR false (cellT 5 8)) (lookZS (cellT 5 8)) := ⟨200, by kernel_rfl⟩
theorem lookz_5_9 : Runs Tryd.prog env 16 [.pure false (.int .i64 (5 : Nat)), .pure false (.int .i64 (9 : Nat))] [] (lookZR false (cellT 5 9)) (lookZS (cellT 5 9)) := ⟨200, by kernel_rfl⟩
theorem lookz_5_10 : Runs Tryd.prog env 16 [.pure false (.int .i64 (5 : Nat)), .pure false (.int .i64 (10 : Nat))] [] (lookZR false (cellT 5 10)) (lookZS (cellT 5 10)) := ⟨200, by kernel_rfl⟩
theorem lookz_5_11 : Runs Tryd.prog env 16 [.pure false (.int .i64 (5 : Nat)), .pure false (.int .i64 (11 : Nat))] [] (lookZR false (cellT 5 11)) (lookZS (cellT 5 11)) := ⟨200, by kernel_rfl⟩
theorem lookz_5_12 : Runs Tryd.prog env 16 [.pure false (.int .i64 (5 : Nat)), .pure false (.int .i64 (12 : Nat))] [] (lookZR true (cellT 5 12)) (lookZS (cellT 5 12)) := ⟨200, by kernel_rfl⟩
theorem lookz_5_13 : Runs Tryd.prog env 16 [.pure false (.int .i64 (5 : Nat)), .pure false (.int .i64 (13 : Nat))] [] (lookZR false (cellT 5 13)) (lookZS (cellT 5 13)) := ⟨200, by kernel_rfl⟩
theorem lookz_5_14 : Runs Tryd.prog env 16 [.pure false (.int .i64 (5 : Nat)), .pure false (.int .i64 (14 : Nat))] [] (lookZR false (cellT 5 14)) (lookZS (cellT 5 14)) := ⟨200, by kernel_rfl⟩
theorem lookz_5_15 : Runs Tryd.prog env 16 [.pure false (.int .i64 (5 : Nat)), .pure false (.int .i64 (15 : Nat))] [] (lookZR true (cellT 5 15)) (lookZS (cellT 5 15)) := ⟨200, by kernel_rfl⟩
theorem lookz_5_16 : Runs Tryd.prog env 16 [.pure false (.int .i64 (5 : Nat)), .pure false (.int .i64 (16 : Nat))] [] (lookZR false (cellT 5 16)) (lookZS (cellT 5 16)) := ⟨200, by kernel_rfl⟩
theorem lookzRow_5 (e : Nat) (h1 : 1 ≤ e) (h2 : e ≤ 16) : ∃ f, Runs Tryd.prog env 16 [.pure false (.int .i64 (5 : Nat)), .pure false (.int .i64 e)] [] (lookZR f (cellT 5 e)) (lookZS (cellT 5 e)) := by
  have h3 : e = 1 ∨ e = 2 ∨ e = 3 ∨ e = 4 ∨ e = 5 ∨ e = 6 ∨ e = 7 ∨ e = 8 ∨ e = 9 ∨ e = 10 ∨ e = 11 ∨ e = 12 ∨ e = 13 ∨ e = 14 ∨ e = 15 ∨ e = 16 := by omega
  rcases h3 with rfl | rfl | rfl | rfl | rfl | rfl | rfl | rfl | rfl | rfl | rfl | rfl | rfl | rfl | rfl | rfl
  · exact ⟨_, lookz_5_1⟩
  · exact ⟨_, lookz_5_2⟩
  · exact ⟨_, lookz_5_3⟩
  · exact ⟨_, lookz_5_4⟩
  · exact ⟨_, lookz_5_5⟩
  · exact ⟨_, lookz_5_6⟩
  · exact ⟨_, lookz_5_7⟩
  · exact ⟨_, lookz_5_8⟩
  · exact ⟨_, lookz_5_9⟩
  · exact ⟨_, lookz_5_10⟩
  · exact ⟨_, lookz_5_11⟩
  · exact ⟨_, lookz_5_12⟩
  · exact ⟨_, lookz_5_13⟩
  · exact ⟨_, lookz_5_14⟩
  · exact ⟨_, lookz_5_15⟩
  · exact ⟨_, lookz_5_16⟩
end Go.Proofs.YtkjoolmkgpmlfaaDoorZ
