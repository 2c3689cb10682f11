/- YtkjoolmkgpmlfaaDoorZGZ3: the program's table, cells of the states 6 and 7, each by the evaluator, rows kept as rows. No claim. -/
import Derived.Test.YtkjoolmkgpmlfaaDoorZT
set_option linter.unusedVariables false
set_option linter.unusedSimpArgs false
set_option maxRecDepth 100000
namespace Go.Proofs.YtkjoolmkgpmlfaaDoorZ
open Go Go.Proofs.YtkjoolmkgpmlfaaDoorZ.V
theorem lookz_6_1 : Runs Tryd.prog env 16 [.pure false (.int .i64 (6 : Nat)), .pure false (.int .i64 (1 : Nat))] [] (lookZR true (cellT 6 1)) (lookZS (cellT 6 1)) := ⟨200, by kernel_rfl⟩
theorem lookz_6_2 : Runs Tryd.prog env 16 [.pure false (.int .i64 (6 : Nat)), .pure false (.int .i64 (2 : Nat))] [] (lookZR false (cellT 6 2)) (lookZS (cellT 6 2)) := ⟨200, by kernel_rfl⟩
theorem lookz_6_3 : Runs Tryd.prog env 16 [.pure false (.int .i64 (6 : Nat)), .pure false (.int .i64 (3 : Nat))] [] (lookZR false (cellT 6 3)) (lookZS (cellT 6 3)) := ⟨200, by kernel_rfl⟩
theorem lookz_6_4 : Runs Tryd.prog env 16 [.pure false (.int .i64 (6 : Nat)), .pure false (.int .i64 (4 : Nat))] [] (lookZR true (cellT 6 4)) (lookZS (cellT 6 4)) := ⟨200, by kernel_rfl⟩
theorem lookz_6_5 : Runs Tryd.prog env 16 [.pure false (.int .i64 (6 : Nat)), .pure false (.int .i64 (5 : Nat))] [] (lookZR true (cellT 6 5)) (lookZS (cellT 6 5)) := ⟨200, by kernel_rfl⟩
theorem lookz_6_6 : Runs Tryd.prog env 16 [.pure false (.int .i64 (6 : Nat)), .pure false (.int .i64 (6 : Nat))] [] (lookZR true (cellT 6 6)) (lookZS (cellT 6 6)) := ⟨200, by kernel_rfl⟩
theorem lookz_6_7 : Runs Tryd.prog env 16 [.pure false (.int .i64 (6 : Nat)), .pure false (.int .i64 (7 : Nat))] [] (lookZR true (cellT 6 7)) (lookZS (cellT 6 7)) := ⟨200, by kernel_rfl⟩
theorem lookz_6_8 : Runs Tryd.prog env 16 [.pure false (.int .i64 (6 : Nat)), .pure false (.int .i64 (8 : Nat))] [] (lookZR true (cellT 6 8)) (lookZS (cellT 6 8)) := ⟨200, by kernel_rfl⟩
theorem lookz_6_9 : Runs Tryd.prog env 16 [.pure false (.int .i64 (6 : Nat)), .pure false (.int .i64 (9 : Nat))] [] (lookZR true (cellT 6 9)) (lookZS (cellT 6 9)) := ⟨200, by kernel_rfl⟩
theorem lookz_6_10 : Runs Tryd.prog env 16 [.pure false (.int .i64 (6 : Nat)), .pure false (.int .i64 (10 : Nat))] [] (lookZR false (cellT 6 10)) (lookZS (cellT 6 10)) := ⟨200, by kernel_rfl⟩
theorem lookz_6_11 : Runs Tryd.prog env 16 [.pure false (.int .i64 (6 : Nat)), .pure false (.int .i64 (11 : Nat))] [] (lookZR true (cellT 6 11)) (lookZS (cellT 6 11)) := ⟨200, by kernel_rfl⟩
theorem lookz_6_12 : Runs Tryd.prog env 16 [.pure false (.int .i64 (6 : Nat)), .pure false (.int .i64 (12 : Nat))] [] (lookZR false (cellT 6 12)) (lookZS (cellT 6 12)) := ⟨200, by kernel_rfl⟩
theorem lookz_6_13 : Runs Tryd.prog env 16 [.pure false (.int .i64 (6 : Nat)), .pure false (.int .i64 (13 : Nat))] [] (lookZR false (cellT 6 13)) (lookZS (cellT 6 13)) := ⟨200, by kernel_rfl⟩
theorem lookz_6_14 : Runs Tryd.prog env 16 [.pure false (.int .i64 (6 : Nat)), .pure false (.int .i64 (14 : Nat))] [] (lookZR false (cellT 6 14)) (lookZS (cellT 6 14)) := ⟨200, by kernel_rfl⟩
theorem lookz_6_15 : Runs Tryd.prog env 16 [.pure false (.int .i64 (6 : Nat)), .pure false (.int .i64 (15 : Nat))] [] (lookZR true (cellT 6 15)) (lookZS (cellT 6 15)) := ⟨200, by kernel_rfl⟩
theorem lookz_6_16 : Runs Tryd.prog env 16 [.pure false (.int .i64 (6 : Nat)), .pure false (.int .i64 (16 : Nat))] [] (lookZR false (cellT 6 16)) (lookZS (cellT 6 16)) := ⟨200, by kernel_rfl⟩
theorem lookzRow_6 (e : Nat) (h1 : 1 ≤ e) (h2 : e ≤ 16) : ∃ f, Runs Tryd.prog env 16 [.pure false (.int .i64 (6 : Nat)), .pure false (.int .i64 e)] [] (lookZR f (cellT 6 e)) (lookZS (cellT 6 e)) := by
  have h3 : e = 1 ∨ e = 2 ∨ e = 3 ∨ e = 4 ∨ e = 5 ∨ e = 6 ∨ e = 7 ∨ e = 8 ∨ e = 9 ∨ e = 10 ∨ e = 11 ∨ e = 12 ∨ e = 13 ∨ e = 14 ∨ e = 15 ∨ e = 16 := by omega
  rcases h3 with rfl | rfl | rfl | rfl | rfl | rfl | rfl | rfl | rfl | rfl | rfl | rfl | rfl | rfl | rfl | rfl
  · exact ⟨_, lookz_6_1⟩
  · exact ⟨_, lookz_6_2⟩
  · exact ⟨_, lookz_6_3⟩
  · exact ⟨_, lookz_6_4⟩
  · exact ⟨_, lookz_6_5⟩
  · exact ⟨_, lookz_6_6⟩
  · exact ⟨_, lookz_6_7⟩
  · exact ⟨_, lookz_6_8⟩
  · exact ⟨_, lookz_6_9⟩
  · exact ⟨_, lookz_6_10⟩
  · exact ⟨_, lookz_6_11⟩
  · exact ⟨_, lookz_6_12⟩
  · exact ⟨_, lookz_6_13⟩
  · exact ⟨_, lookz_6_14⟩
  · exact ⟨_, lookz_6_15⟩
  · exact ⟨_, lookz_6_16⟩
theorem lookz_7_1 : Runs Tryd.prog env 16 [.pure false (.int .i64 (7 : Nat)), .pure false (.int .i64 (1 : Nat))] [] (lookZR true (cellT 7 1)) (lookZS (cellT 7 1)) := ⟨200, by kernel_rfl⟩
theorem lookz_7_2 : Runs Tryd.prog env 16 [.pure false (.int .i64 (7 : Nat)), .pure false (.int .i64 (2 : Nat))] [] (lookZR false (cellT 7 2)) (lookZS (cellT 7 2)) := ⟨200, by kernel_rfl⟩
theorem lookz_7_3 : Runs Tryd.prog env 16 [.pure false (.int .i64 (7 : Nat)), .pure false (.int .i64 (3 : Nat))] [] (lookZR false (cellT 7 3)) (lookZS (cellT 7 3)) := ⟨200, by kernel_rfl⟩
theorem lookz_7_4 : Runs Tryd.prog env 16 [.pure false (.int .i64 (7 : Nat)), .pure false (.int .i64 (4 : Nat))] [] (lookZR true (cellT 7 4)) (lookZS (cellT 7 4)) := ⟨200, by kernel_rfl⟩
theorem lookz_7_5 : Runs Tryd.prog env 16 [.pure false (.int .i64 (7 : Nat)), .pure false (.int .i64 (5 : Nat))] [] (lookZR true (cellT 7 5)) (lookZS (cellT 7 5)) := ⟨200, by kernel_rfl⟩
theorem lookz_7_6 : Runs Tryd.prog env 16 [.pure false (.int .i64 (7 : Nat)), .pure false (.int .i64 (6 : Nat))] [] (lookZR true (cellT 7 6)) (lookZS (cellT 7 6)) := ⟨200, by kernel_rfl⟩
theorem lookz_7_7 : Runs Tryd.prog env 16 [.pure false (.int .i64 (7 : Nat)), .pure false (.int .i64 (7 : Nat))] [] (lookZR true (cellT 7 7)) (lookZS (cellT 7 7)) := ⟨200, by kernel_rfl⟩
theorem lookz_7_8 : Runs Tryd.prog env 16 [.pure false (.int .i64 (7 : Nat)), .pure false (.int .i64 (8 : Nat))] [] (lookZR false (cellT 7 8)) (lookZS (cellT 7 8)) := ⟨200, by kernel_rfl⟩
theorem lookz_7_9 : Runs Tryd.prog env 16 [.pure false (.int .i64 (7 : Nat)), .pure false (.int .i64 (9 : Nat))] [] (lookZR true (cellT 7 9)) (lookZS (cellT 7 9)) := ⟨200, by kernel_rfl⟩
theorem lookz_7_10 : Runs Tryd.prog env 16 [.pure false (.int .i64 (7 : Nat)), .pure false (.int .i64 (10 : Nat))] [] (lookZR true (cellT 7 10)) (lookZS (cellT 7 10)) := ⟨200, by kernel_rfl⟩
theorem lookz_7_11 : Runs Tryd.prog env 16 [.pure false (.int .i64 (7 : Nat)), .pure false (.int .i64 (11 : Nat))] [] (lookZR true (cellT 7 11)) (lookZS (cellT 7 11)) := ⟨200, by kernel_rfl⟩
theorem lookz_7_12 : Runs Tryd.prog env 16 [.pure false (.int .i64 (7 : Nat)), .pure false (.int .i64 (12 : Nat))] [] (lookZR false (cellT 7 12)) (lookZS (cellT 7 12)) := ⟨200, by kernel_rfl⟩
theorem lookz_7_13 : Runs Tryd.prog env 16 [.pure false (.int .i64 (7 : Nat)), .pure false (.int .i64 (13 : Nat))] [] (lookZR false (cellT 7 13)) (lookZS (cellT 7 13)) := ⟨200, by kernel_rfl⟩
theorem lookz_7_14 : Runs Tryd.prog env 16 [.pure false (.int .i64 (7 : Nat)), .pure false (.int .i64 (14 : Nat))] [] (lookZR false (cellT 7 14)) (lookZS (cellT 7 14)) := ⟨200, by kernel_rfl⟩
theorem lookz_7_15 : Runs Tryd.prog env 16 [.pure false (.int .i64 (7 : Nat)), .pure false (.int .i64 (15 : Nat))] [] (lookZR true (cellT 7 15)) (lookZS (cellT 7 15)) := ⟨200, by kernel_rfl⟩
theorem lookz_7_16 : Runs Tryd.prog env 16 [.pure false (.int .i64 (7 : Nat)), .pure false (.int .i64 (16 : Nat))] [] (lookZR false (cellT 7 16)) (lookZS (cellT 7 16)) := ⟨200, by kernel_rfl⟩
theorem lookzRow_7 (e : Nat) (h1 : 1 ≤ e) (h2 : e ≤ 16) : ∃ f, Runs Tryd.prog env 16 [.pure false (.int .i64 (7 : Nat)), .pure false (.int .i64 e)] [] (lookZR f (cellT 7 e)) (lookZS (cellT 7 e)) := by
  have h3 : e = 1 ∨ e = 2 ∨ e = 3 ∨ e = 4 ∨ e = 5 ∨ e = 6 ∨ e = 7 ∨ e = 8 ∨ e = 9 ∨ e = 10 ∨ e = 11 ∨ e = 12 ∨ e = 13 ∨ e = 14 ∨ e = 15 ∨ e = 16 := by omega
  rcases h3 with rfl | rfl | rfl | rfl | rfl | rfl | rfl | rfl | rfl | rfl | rfl | rfl | rfl | rfl | rfl | rfl
  · exact ⟨_, lookz_7_1⟩
  · exact ⟨_, lookz_7_2⟩
  · exact ⟨_, lookz_7_3⟩
  · exact ⟨_, lookz_7_4⟩
  · exact ⟨_, lookz_7_5⟩
  · exact ⟨_, lookz_7_6⟩
  · exact ⟨_, lookz_7_7⟩
  · exact ⟨_, lookz_7_8⟩
  · exact ⟨_, lookz_7_9⟩
  · exact ⟨_, lookz_7_10⟩
  · exact ⟨_, lookz_7_11⟩
  · exact ⟨_, lookz_7_12⟩
  · exact ⟨_, lookz_7_13⟩
  · exact ⟨_, lookz_7_14⟩
  · exact ⟨_, lookz_7_15⟩
  · exact ⟨_, lookz_7_16⟩
end Go.Proofs.YtkjoolmkgpmlfaaDoorZ
