/- YticdhmcbooabaaaDoorD7: the document: what an event comes to, its marks told as functions. No claim. -/
import Derived.Test.YticdhmcbooabaaaDoorDD
set_option linter.unusedVariables false
set_option linter.unusedSimpArgs false
set_option maxRecDepth 100000
namespace Go.Proofs.YticdhmcbooabaaaDoor
open Go Go.Proofs.YticdhmcbooabaaaDoor.V


theorem HapS_0 {cf tm : Int} (h1 : 1 ≤ cf ∧ cf ≤ 255) (h2 : 1 ≤ tm ∧ tm ≤ 255) {x y z x' : L3} {e : Int} (hx : okL x) (h : hapL cf tm x e = some x') :
    ∃ qf qg : Bool → Bool → Bool → Bool → Bool, ∀ mc mb mi me, Runs Tryd.prog env 37 [.pure mc (confV cf tm 1), .pure mb (benchV (x, y, z)), .pure mi (.int .i64 0), .pure me (.int .i64 e)] [] (.tuple [.pure (qf mc mb mi me) (benchV (x', y, z)), .pure (qg mc mb mi me) (.agg [.int .i64 49185, .int .i64 x.1, .int .i64 e]), .pure true (.bool true)]) [] := by
  have k := fun mc mb mi me => HapY_0 h1 h2 (x := x) (y := y) (z := z) hx h mc mb mi me
  exact ⟨fun a b c d => Classical.choose (k a b c d), fun a b c d => Classical.choose (Classical.choose_spec (k a b c d)), fun a b c d => Classical.choose_spec (Classical.choose_spec (k a b c d))⟩

theorem HapS_1 {cf tm : Int} (h1 : 1 ≤ cf ∧ cf ≤ 255) (h2 : 1 ≤ tm ∧ tm ≤ 255) {x y z y' : L3} {e : Int} (hx : okL y) (h : hapL cf tm y e = some y') :
    ∃ qf qg : Bool → Bool → Bool → Bool → Bool, ∀ mc mb mi me, Runs Tryd.prog env 37 [.pure mc (confV cf tm 1), .pure mb (benchV (x, y, z)), .pure mi (.int .i64 1), .pure me (.int .i64 e)] [] (.tuple [.pure (qf mc mb mi me) (benchV (x, y', z)), .pure (qg mc mb mi me) (.agg [.int .i64 32801, .int .i64 y.1, .int .i64 e]), .pure true (.bool true)]) [] := by
  have k := fun mc mb mi me => HapY_1 h1 h2 (x := x) (y := y) (z := z) hx h mc mb mi me
  exact ⟨fun a b c d => Classical.choose (k a b c d), fun a b c d => Classical.choose (Classical.choose_spec (k a b c d)), fun a b c d => Classical.choose_spec (Classical.choose_spec (k a b c d))⟩

theorem HapS_2 {cf tm : Int} (h1 : 1 ≤ cf ∧ cf ≤ 255) (h2 : 1 ≤ tm ∧ tm ≤ 255) {x y z z' : L3} {e : Int} (hx : okL z) (h : hapL cf tm z e = some z') :
    ∃ qf qg : Bool → Bool → Bool → Bool → Bool, ∀ mc mb mi me, Runs Tryd.prog env 37 [.pure mc (confV cf tm 1), .pure mb (benchV (x, y, z)), .pure mi (.int .i64 2), .pure me (.int .i64 e)] [] (.tuple [.pure (qf mc mb mi me) (benchV (x, y, z')), .pure (qg mc mb mi me) (.agg [.int .i64 32855, .int .i64 z.1, .int .i64 e]), .pure true (.bool true)]) [] := by
  have k := fun mc mb mi me => HapY_2 h1 h2 (x := x) (y := y) (z := z) hx h mc mb mi me
  exact ⟨fun a b c d => Classical.choose (k a b c d), fun a b c d => Classical.choose (Classical.choose_spec (k a b c d)), fun a b c d => Classical.choose_spec (Classical.choose_spec (k a b c d))⟩
theorem hapL_0 (cf tm : Int) (x : L3) : hapL cf tm x 0 = none := by
  unfold hapL stepOut cellI
  rw [if_neg (by omega)]
end Go.Proofs.YticdhmcbooabaaaDoor
