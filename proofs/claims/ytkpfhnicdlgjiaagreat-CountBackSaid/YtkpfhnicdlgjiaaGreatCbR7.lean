/- A round of the examples. -/
import Derived.Test.YtkpfhnicdlgjiaaGreatCbA
set_option maxRecDepth 100000
namespace Go.Proofs.YtkpfhnicdlgjiaaGreat
theorem round7 : roundOk 7 = true := by kernel_rfl
end Go.Proofs.YtkpfhnicdlgjiaaGreat
