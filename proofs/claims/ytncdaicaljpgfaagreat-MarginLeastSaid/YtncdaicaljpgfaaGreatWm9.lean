/- Margins: MarginLeast, with the examples and the library's sort known. -/
import Derived.Test.YtncdaicaljpgfaaGreatWm3
import Derived.Test.YtncdaicaljpgfaaGreatWmRun
import Derived.Test.YtncdaicaljpgfaaGreatWm7
set_option linter.unusedVariables false
namespace Go.Proofs.YtncdaicaljpgfaaGreat
theorem wakes_v : VFn (LM 6) 6 [] (.bool true) := ⟨rfl, rfl, AFn.of_ext (L := LM 6) rfl []⟩
theorem okM : Ok (LM 6) CC := okLM wakes_afn
theorem mleast_law (need other : Int) (g d : Nl Int) (hg : okI g) (hd : okI d) (hn : -9223372036854775808 ≤ need ∧ need ≤ 9223372036854775807) (ho : -9223372036854775808 ≤ other ∧ other ≤ 9223372036854775807) : VFn (LM 6) 5 [nlv mrow 1 g, nlv mrow 1 d, .int .i64 need, .int .i64 other] (.bool true) := mleast_v rfl (sortPOk _) wakes_v need other g d hg hd hn ho
end Go.Proofs.YtncdaicaljpgfaaGreat
