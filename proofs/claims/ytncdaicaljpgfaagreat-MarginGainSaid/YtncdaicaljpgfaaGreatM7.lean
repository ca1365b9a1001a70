/- A part of the examples. · A part of the examples. · A part of the examples. · A part of the examples. · A part of the examples. · A part of the examples. · A part of the examples. · A part of the examples. · A part of the examples. · A part of the examples. -/
import Derived.Test.YtncdaicaljpgfaaGreatM8
set_option maxRecDepth 100000
set_option linter.unusedVariables false
set_option linter.unusedSimpArgs false
namespace Go.Proofs.YtncdaicaljpgfaaGreat
theorem stepW3 : stepOk LN 999 T6.1.ntmps 9 T6.1.body.r.r.r.l eW2 eW3 TW = true := by kernel_rfl
end Go.Proofs.YtncdaicaljpgfaaGreat
set_option maxRecDepth 100000
set_option linter.unusedVariables false
set_option linter.unusedSimpArgs false
namespace Go.Proofs.YtncdaicaljpgfaaGreat
theorem stepW4 : stepOk LN 999 T6.1.ntmps 9 T6.1.body.r.r.r.r.l eW3 eW4 TW = true := by kernel_rfl
end Go.Proofs.YtncdaicaljpgfaaGreat
set_option maxRecDepth 100000
set_option linter.unusedVariables false
set_option linter.unusedSimpArgs false
namespace Go.Proofs.YtncdaicaljpgfaaGreat
theorem stepW7 : stepOk LN 999 T6.1.ntmps 9 T6.1.body.r.r.r.r.r.r.r.l eW6 eW7 TW = true := by kernel_rfl
end Go.Proofs.YtncdaicaljpgfaaGreat
set_option maxRecDepth 100000
set_option linter.unusedVariables false
set_option linter.unusedSimpArgs false
namespace Go.Proofs.YtncdaicaljpgfaaGreat
theorem stepW8 : stepOk LN 999 T6.1.ntmps 9 T6.1.body.r.r.r.r.r.r.r.r.l eW7 eW8 TW = true := by kernel_rfl
end Go.Proofs.YtncdaicaljpgfaaGreat
set_option maxRecDepth 100000
set_option linter.unusedVariables false
set_option linter.unusedSimpArgs false
namespace Go.Proofs.YtncdaicaljpgfaaGreat
theorem stepW9 : stepOk LN 999 T6.1.ntmps 9 T6.1.body.r.r.r.r.r.r.r.r.r.l eW8 eW9 TW = true := by kernel_rfl
end Go.Proofs.YtncdaicaljpgfaaGreat
set_option maxRecDepth 100000
set_option linter.unusedVariables false
set_option linter.unusedSimpArgs false
namespace Go.Proofs.YtncdaicaljpgfaaGreat
theorem stepW10 : stepOk LN 999 T6.1.ntmps 9 T6.1.body.r.r.r.r.r.r.r.r.r.r.l eW9 eW10 TW = true := by kernel_rfl
end Go.Proofs.YtncdaicaljpgfaaGreat
set_option maxRecDepth 100000
set_option linter.unusedVariables false
set_option linter.unusedSimpArgs false
namespace Go.Proofs.YtncdaicaljpgfaaGreat
theorem stepW11 : stepOk LN 999 T6.1.ntmps 9 T6.1.body.r.r.r.r.r.r.r.r.r.r.r.l eW10 eW11 TW = true := by kernel_rfl
end Go.Proofs.YtncdaicaljpgfaaGreat
set_option maxRecDepth 100000
set_option linter.unusedVariables false
set_option linter.unusedSimpArgs false
namespace Go.Proofs.YtncdaicaljpgfaaGreat
theorem stepW12 : stepOk LN 999 T6.1.ntmps 9 T6.1.body.r.r.r.r.r.r.r.r.r.r.r.r.l eW11 eW12 TW = true := by kernel_rfl
end Go.Proofs.YtncdaicaljpgfaaGreat
set_option maxRecDepth 100000
set_option linter.unusedVariables false
set_option linter.unusedSimpArgs false
namespace Go.Proofs.YtncdaicaljpgfaaGreat
theorem stepW13 : stepOk LN 999 T6.1.ntmps 9 T6.1.body.r.r.r.r.r.r.r.r.r.r.r.r.r.l eW12 eW13 TW = true := by kernel_rfl
end Go.Proofs.YtncdaicaljpgfaaGreat
set_option maxRecDepth 100000
set_option linter.unusedVariables false
set_option linter.unusedSimpArgs false
namespace Go.Proofs.YtncdaicaljpgfaaGreat
theorem stepW14 : stepOk LN 999 T6.1.ntmps 9 T6.1.body.r.r.r.r.r.r.r.r.r.r.r.r.r.r.l eW13 eW14 TW = true := by kernel_rfl
end Go.Proofs.YtncdaicaljpgfaaGreat
