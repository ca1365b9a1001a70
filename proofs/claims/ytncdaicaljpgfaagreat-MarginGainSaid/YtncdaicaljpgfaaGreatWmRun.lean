/- Margins: the chapter's examples hold. -/
import Derived.Test.YtncdaicaljpgfaaGreatM7
import Derived.Test.YtncdaicaljpgfaaGreatWmR5
import Derived.Test.YtncdaicaljpgfaaGreatWmR6
import Derived.Test.YtncdaicaljpgfaaGreatM4
set_option maxRecDepth 100000
set_option linter.unusedVariables false
set_option linter.unusedSimpArgs false
namespace Go.Proofs.YtncdaicaljpgfaaGreat
theorem wakes_afn : AFn LL (.fn 6) [] [] (fun r' H' => r' = .bool true ∧ True) := by
  suffices h : AFn LN (.fn 6) [] [] (fun r' H' => r' = .bool true ∧ True) from fun C hC => h C ⟨hC.fn, hC.gl, hC.body, hC.ext, hC.extr, hC.exty⟩
  have hcall : CallOk LN (funcR LN 999) := funcR_sound LN 999
  refine AFn.of_body (F := T6.1) (by rfl) rfl ?_
  refine wSeq rfl (codeR_sound hcall _ runW0 hr0 (fun H1 hr1 => ?_))
  obtain rfl := hr1.unique hr0
  refine wSeq rfl (codeR_sound hcall _ runW1 hr0 (fun H1 hr1 => ?_))
  refine wSeq rfl (codeR_sound hcall _ runW2 hr1 (fun H2 hr2 => ?_))
  refine wSeq rfl (runStep stepW3 keepW fixW3 hr2 ?_)
  refine wSeq rfl (runStep stepW4 keepW fixW4 hr2 ?_)
  refine wSeq rfl (runStep stepW5 keepW fixW5 hr2 ?_)
  refine wSeq rfl (runStep stepW6 keepW fixW6 hr2 ?_)
  refine wSeq rfl (runStep stepW7 keepW fixW7 hr2 ?_)
  refine wSeq rfl (runStep stepW8 keepW fixW8 hr2 ?_)
  refine wSeq rfl (runStep stepW9 keepW fixW9 hr2 ?_)
  refine wSeq rfl (runStep stepW10 keepW fixW10 hr2 ?_)
  refine wSeq rfl (runStep stepW11 keepW fixW11 hr2 ?_)
  refine wSeq rfl (runStep stepW12 keepW fixW12 hr2 ?_)
  refine wSeq rfl (runStep stepW13 keepW fixW13 hr2 ?_)
  refine wSeq rfl (runStep stepW14 keepW fixW14 hr2 ?_)
  refine wSeq rfl (codeR_sound hcall _ runW15 hr2 (fun H3 hr3 => ?_))
  obtain rfl := hr3.unique hr2
  refine wRet rfl ?_
  exact FnQ.at rfl ⟨rfl, trivial⟩
end Go.Proofs.YtncdaicaljpgfaaGreat
