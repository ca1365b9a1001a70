/- The functions in the abstract language, worked out by Lean. -/
import Derived.Test.YtaehkmmlacpleaaAlX
set_option linter.unusedVariables false
set_option maxHeartbeats 1000000
set_option maxRecDepth 100000
namespace Go.Proofs.Ytaehkmmlacpleaa
-- slices.nextPowerOfTwo
noncomputable def T67 : { F : AFunc // CT.func [[2], [0, 3, 4, 5, 6]] Try.f67 = some F } := by
  refine ⟨?F, ?h⟩
  case h =>
    conv => lhs; cbv
theorem c67 : Cert 67 T67.1 := cert_of T67.2 Try.func67
-- (*slices.xorshift).Next
noncomputable def T68 : { F : AFunc // CT.func [[2], [3, 4, 5, 6, 7, 8, 9, 10, 11], [12, 13, 14, 15, 16, 17, 18, 19, 20], [21, 22, 23, 24, 25, 26, 27, 28, 29], [0, 30, 31, 32]] Try.f68 = some F } := by
  refine ⟨?F, ?h⟩
  case h =>
    conv => lhs; cbv
theorem c68 : Cert 68 T68.1 := cert_of T68.2 Try.func68
-- slices.medianAdjacentOrdered[int]
noncomputable def T69 : { F : AFunc // CT.func [[6], [0, 1, 2, 7, 8, 9, 10, 11, 12, 13, 14]] Try.f69 = some F } := by
  refine ⟨?F, ?h⟩
  case h =>
    conv => lhs; cbv
theorem c69 : Cert 69 T69.1 := cert_of T69.2 Try.func69
-- slices.medianOrdered[int]
noncomputable def T70 : { F : AFunc // CT.func [[10], [11, 12, 13, 14, 15, 16, 17, 18], [3, 19, 20, 21, 22, 23, 24, 25, 26], [0, 1, 4, 27, 28, 29, 30, 31, 32, 33, 34], [2, 35]] Try.f70 = some F } := by
  refine ⟨?F, ?h⟩
  case h =>
    conv => lhs; cbv
theorem c70 : Cert 70 T70.1 := cert_of T70.2 Try.func70
-- cmp.isNaN[int]
noncomputable def T71 : { F : AFunc // CT.func [[2], [0, 3, 4, 5]] Try.f71 = some F } := by
  refine ⟨?F, ?h⟩
  case h =>
    conv => lhs; cbv
theorem c71 : Cert 71 T71.1 := cert_of T71.2 Try.func71
-- slices.order2Ordered[int]
noncomputable def T72 : { F : AFunc // CT.func [[8, 9], [0, 10, 11, 12, 13, 14, 15, 16, 17], [3, 18, 19, 20, 21, 22, 23], [1, 2, 24, 25], [1, 2, 3, 18, 26, 27]] Try.f72 = some F } := by
  refine ⟨?F, ?h⟩
  case h =>
    conv => lhs; cbv
theorem c72 : Cert 72 T72.1 := cert_of T72.2 Try.func72
end Go.Proofs.Ytaehkmmlacpleaa
