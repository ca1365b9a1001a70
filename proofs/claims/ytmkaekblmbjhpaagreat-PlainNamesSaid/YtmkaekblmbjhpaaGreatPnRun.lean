/- PlainNames: run to its end. -/
import Derived.Test.YtmkaekblmbjhpaaGreatAlXl
import Derived.Test.YtmkaekblmbjhpaaGreatAlY
set_option maxRecDepth 100000
set_option linter.unusedVariables false
namespace Go.Proofs.YtmkaekblmbjhpaaGreat
theorem alive_runF : isT (funcF LL 1000 (.fn 8) [] .e 0) = true := by kernel_rfl
theorem alive_afn : AFn LL (.fn 8) [] [] (fun r' H' => r' = .bool true ∧ True) := afn_true (by rw [← funcF_eq]; exact alive_runF)
theorem names_runF : isT (funcF (LX 8) 1000 (.fn 3) [] .e 0) = true := by kernel_rfl
theorem names_run : isT (funcR (LX 8) 1000 (.fn 3) [] .e 0) = true := by rw [← funcF_eq]; exact names_runF
theorem CT_k : CT.fns 3 = some 3 := by kernel_rfl
theorem plainNames_law (W : World) : Calls Tryz.prog 3 #[] W fun e w' => e = .returned (.bool true) ∧ RowKit.Below W.heap.size W w' :=
  law_of (okX alive_afn) (afn_true names_run) CT_k W
end Go.Proofs.YtmkaekblmbjhpaaGreat
