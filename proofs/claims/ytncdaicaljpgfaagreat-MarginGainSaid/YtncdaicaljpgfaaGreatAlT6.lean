/- The functions in the abstract language, worked out by Lean. -/
import Derived.Test.YtncdaicaljpgfaaGreatAlPc
set_option linter.unusedVariables false
set_option maxHeartbeats 1000000
set_option maxRecDepth 100000
namespace Go.Proofs.YtncdaicaljpgfaaGreat
-- (suffrage/coombs.most).elects$1
noncomputable def T351 : { F : AFunc // CT.func [[3], [0, 1, 4, 5, 6, 7]] Tryz.f351 = some F } := by
  refine ⟨?F, ?h⟩
  case h =>
    conv => lhs; cbv
theorem c351 : Cert 351 T351.1 := cert_of T351.2 Tryz.func351
-- suffrage/coombs.against
noncomputable def T352 : { F : AFunc // CT.func [[0, 4], [13, 14, 15], [2, 16], [], [20, 21, 22], [], [], [], [26, 27, 28], [29, 30, 31, 32], [33, 34, 35], [12, 36], [9, 11, 37, 38, 39, 40, 41, 42, 43, 44, 45], [], [11, 37, 46], [9, 23, 24, 25, 26, 47, 48, 49, 50, 51], [7, 8, 52, 53, 54, 55, 56, 57, 58, 59, 60, 61, 62, 63, 64], [7, 8, 52, 65], [1, 5, 17, 18, 19, 20, 66]] Tryz.f352 = some F } := by
  refine ⟨?F, ?h⟩
  case h =>
    conv => lhs; cbv
theorem c352 : Cert 352 T352.1 := cert_of T352.2 Tryz.func352
-- (suffrage/coombs.most).out$1
noncomputable def T353 : { F : AFunc // CT.func [[3], [0, 1, 4, 5, 6, 7]] Tryz.f353 = some F } := by
  refine ⟨?F, ?h⟩
  case h =>
    conv => lhs; cbv
theorem c353 : Cert 353 T353.1 := cert_of T353.2 Tryz.func353
-- (suffrage/gregory.hopeful).has
noncomputable def T354 : { F : AFunc // CT.func [[0, 2, 3, 6], [1, 7]] Tryz.f354 = some F } := by
  refine ⟨?F, ?h⟩
  case h =>
    conv => lhs; cbv
theorem c354 : Cert 354 T354.1 := cert_of T354.2 Tryz.func354
-- (suffrage/gregory.hopeful).in
noncomputable def T355 : { F : AFunc // CT.func [[0, 1, 2], []] Tryz.f355 = some F } := by
  refine ⟨?F, ?h⟩
  case h =>
    conv => lhs; cbv
theorem c355 : Cert 355 T355.1 := cert_of T355.2 Tryz.func355
-- (suffrage/gregory.done).has
noncomputable def T356 : { F : AFunc // CT.func [[0, 1, 6], [3, 7], [2, 8, 9], [2, 8]] Tryz.f356 = some F } := by
  refine ⟨?F, ?h⟩
  case h =>
    conv => lhs; cbv
theorem c356 : Cert 356 T356.1 := cert_of T356.2 Tryz.func356
-- (suffrage/gregory.done).in
noncomputable def T357 : { F : AFunc // CT.func [[0, 1, 2], []] Tryz.f357 = some F } := by
  refine ⟨?F, ?h⟩
  case h =>
    conv => lhs; cbv
theorem c357 : Cert 357 T357.1 := cert_of T357.2 Tryz.func357
end Go.Proofs.YtncdaicaljpgfaaGreat
