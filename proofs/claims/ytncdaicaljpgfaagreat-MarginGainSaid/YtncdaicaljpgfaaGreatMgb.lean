/- The law MarginGain, with the examples known. -/
import Derived.Test.YtncdaicaljpgfaaGreatMga
import Derived.Test.YtncdaicaljpgfaaGreatWmRun
set_option linter.unusedVariables false
namespace Go.Proofs.YtncdaicaljpgfaaGreat
theorem wakesL_v : VFn LL 6 [] (.bool true) := vfn_val rfl rfl wakes_afn
theorem gain_all (r cands w x : Int) (a d : Nl Int) (ha : okI a) (hd : okI d) : VFn LL 4 [.int .u8 r, .int .i64 cands, nlv mrow 1 a, nlv mrow 1 d, .int .i64 w, .int .i64 x] (.bool true) := gain_law rfl wakesL_v r cands w x a d ha hd
end Go.Proofs.YtncdaicaljpgfaaGreat
