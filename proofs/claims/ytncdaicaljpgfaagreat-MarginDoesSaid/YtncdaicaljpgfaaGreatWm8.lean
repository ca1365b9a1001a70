/- Margins: the laws, with the examples and the library's sort known. -/
import Derived.Test.YtncdaicaljpgfaaGreatWm3
import Derived.Test.YtncdaicaljpgfaaGreatWmRun
import Derived.Test.YtncdaicaljpgfaaGreatWm6
set_option linter.unusedVariables false
namespace Go.Proofs.YtncdaicaljpgfaaGreat
theorem wakes_v : VFn (LM 6) 6 [] (.bool true) := ⟨rfl, rfl, AFn.of_ext (L := LM 6) rfl []⟩
theorem okM : Ok (LM 6) CC := okLM wakes_afn
theorem does_law (r cands w x need : Int) (a g d : Nl Int) (ha : okI a) (hg : okI g) (hd : okI d) (hn : -9223372036854775808 ≤ need ∧ need ≤ 9223372036854775807) : VFn (LM 6) 3 [.int .u8 r, .int .i64 cands, nlv mrow 1 a, .int .i64 w, .int .i64 x, nlv mrow 1 g, nlv mrow 1 d, .int .i64 need] (.bool true) := does_v rfl (sortPOk _) wakes_v r cands w x need a g d ha hg hd hn
end Go.Proofs.YtncdaicaljpgfaaGreat
