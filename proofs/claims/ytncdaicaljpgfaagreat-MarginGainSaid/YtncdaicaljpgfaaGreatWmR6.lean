/- A part of the examples. -/
import Derived.Test.YtncdaicaljpgfaaGreatM8
set_option maxRecDepth 100000
set_option linter.unusedVariables false
set_option linter.unusedSimpArgs false
namespace Go.Proofs.YtncdaicaljpgfaaGreat
theorem stepW6 : stepOk LN 999 T6.1.ntmps 9 T6.1.body.r.r.r.r.r.r.l eW5 eW6 TW = true := by kernel_rfl
end Go.Proofs.YtncdaicaljpgfaaGreat
