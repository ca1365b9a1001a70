/- A round of the examples. -/
import Derived.Test.YtgajemhdpjomnaaGreatAlWa
set_option maxRecDepth 100000
namespace Go.Proofs.YtgajemhdpjomnaaGreat
theorem round5 : roundOk 5 = true := by kernel_rfl
end Go.Proofs.YtgajemhdpjomnaaGreat
