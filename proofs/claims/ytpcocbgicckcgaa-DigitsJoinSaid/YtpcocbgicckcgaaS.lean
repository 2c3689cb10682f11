/- YtpcocbgicckcgaaS: the answers that the document fixes. No claim. -/
import Derived.Test.YtpcocbgicckcgaaE
set_option maxRecDepth 100000
namespace Go.Proofs.Ytpcocbgicckcgaa
open Go Go.Proofs.Ytpcocbgicckcgaa.V
theorem awake_any : Runs Try.prog env 9 [] [] (.pure true (.bool true)) [] := ⟨60, by kernel_rfl⟩
end Go.Proofs.Ytpcocbgicckcgaa
