/- A round of the examples. -/
import Derived.Test.YtgajemhdpjomnaaGreatAlWa
set_option maxRecDepth 100000
namespace Go.Proofs.YtgajemhdpjomnaaGreat
theorem round8 : roundOk 8 = true := by kernel_rfl
end Go.Proofs.YtgajemhdpjomnaaGreat
