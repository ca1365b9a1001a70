/- The examples of the chapter hold. · CountBack: the law, with the examples known. -/
import Derived.Test.YtkpfhnicdlgjiaaGreatCbR5
import Derived.Test.YtkpfhnicdlgjiaaGreatCbR6
import Derived.Test.YtkpfhnicdlgjiaaGreatCbR7
import Derived.Test.YtkpfhnicdlgjiaaGreatCbR8
import Derived.Test.YtkpfhnicdlgjiaaGreatCbR9
import Derived.Test.YtkpfhnicdlgjiaaGreatCbR10
import Derived.Test.YtkpfhnicdlgjiaaGreatM4
import Derived.Test.YtkpfhnicdlgjiaaGreatCb1
import Derived.Test.YtkpfhnicdlgjiaaGreatM7
set_option maxRecDepth 100000
set_option linter.unusedVariables false
set_option linter.unusedSimpArgs false
namespace Go.Proofs.YtkpfhnicdlgjiaaGreat
theorem rounds {r : Int} (h5 : 5 ≤ r) (h : r ≤ 10) : roundOk r = true := by
  have : r = 5 ∨ r = 6 ∨ r = 7 ∨ r = 8 ∨ r = 9 ∨ r = 10 := by omega
  rcases this with rfl | rfl | rfl | rfl | rfl | rfl
  · exact round5
  · exact round6
  · exact round7
  · exact round8
  · exact round9
  · exact round10
theorem alive_afn : AFn LL (.fn 4) [] [] (fun r' H' => r' = .bool true ∧ True) := by
  have hcall : CallOk LL (funcR LL 999) := funcR_sound LL 999
  refine AFn.of_body (F := T4.1) (by rfl) rfl ?_
  (repeat' (first | refine wSeq rfl ?_ | refine wBlock rfl ?_ | refine wSkip rfl ?_ | refine wExit rfl ?_ | refine wRet rfl ?_ | refine wCondT rfl rfl ?_ | refine wCondF rfl rfl ?_ | refine wOps rfl ?_ | refine wDraw rfl rfl ?_ | simp only [seval, push_cast, ↓reduceIte, ↓bP_some, ↓aP_true, reduceCtorEq]))
  refine wLoop rfl (fun m E H => ∃ r : Int, E = [(1, .int .u8 r)] ∧ H = [] ∧ (m : Int) = 11 - r ∧ 5 ≤ r) 6 ⟨5, rfl, rfl, by omega, by omega⟩ (fun m E H hI => ?_)
  obtain ⟨r, rfl, rfl, hm, h5⟩ := hI
  by_cases h11 : r = 11
  · subst h11
    (repeat' (first | refine wSeq rfl ?_ | refine wBlock rfl ?_ | refine wSkip rfl ?_ | refine wExit rfl ?_ | refine wRet rfl ?_ | refine wCondT rfl rfl ?_ | refine wCondF rfl rfl ?_ | refine wOps rfl ?_ | refine wDraw rfl rfl ?_ | simp only [seval, push_cast, ↓reduceIte, ↓bP_some, ↓aP_true, reduceCtorEq]))
    exact FnQ.at rfl rfl
  · obtain ⟨T, n, hc⟩ := roundOk_spec (rounds h5 (by omega))
    refine codeR_sound hcall _ hc hr0 (fun H1 hr1 => ?_)
    exact ⟨m - 1, by omega, .inr ⟨[], [], rfl, r + 1, rfl, rfl, by omega, by omega⟩⟩
end Go.Proofs.YtkpfhnicdlgjiaaGreat
set_option linter.unusedVariables false
namespace Go.Proofs.YtkpfhnicdlgjiaaGreat
theorem alive_v : VFn (LB 4) 4 [] (.bool true) := ⟨rfl, rfl, AFn.of_ext (L := LB 4) rfl []⟩
theorem back_law (o : Oc) (ho : okO o) (p : Nl Int) : VFn (LB 4) 3 [ocv o, nlv mrow 1 p] (.bool true) := back_v rfl (sortOkB _) alive_v o ho p
end Go.Proofs.YtkpfhnicdlgjiaaGreat
