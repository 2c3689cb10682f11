/- YtpgklagjjimbhaaS: the answers that the document fixes. No claim. -/
import Derived.Test.YtpgklagjjimbhaaE
set_option maxRecDepth 100000
namespace Go.Proofs.Ytpgklagjjimbhaa
open Go Go.Proofs.Ytpgklagjjimbhaa.V
theorem awake12_any : Runs Try.prog env 26 [] [] (.pure true (.bool true)) [] := ⟨60, by kernel_rfl⟩
theorem awake13_any : Runs Try.prog env 41 [] [] (.pure true (.bool true)) [] := ⟨60, by kernel_rfl⟩
theorem awake15_any : Runs Try.prog env 54 [] [] (.pure true (.bool true)) [] := ⟨60, by kernel_rfl⟩
theorem awake18_any : Runs Try.prog env 66 [] [] (.pure true (.bool true)) [] := ⟨60, by kernel_rfl⟩
end Go.Proofs.Ytpgklagjjimbhaa
