/- The functions in the abstract language, worked out by Lean. -/
import Derived.Test.YtmkaekblmbjhpaaGreatAlX
set_option linter.unusedVariables false
set_option maxHeartbeats 1000000
set_option maxRecDepth 100000
namespace Go.Proofs.YtmkaekblmbjhpaaGreat
-- suffrage/nat.takes
noncomputable def T244 : { F : AFunc // CT.func [[6], [], [], [], [14, 15, 16, 17], [10, 18, 19, 20, 21, 22, 23], [9, 24, 25, 26, 27, 28, 29, 30, 31, 32, 33, 34, 35, 36, 37], [38, 39], [40], [0, 1, 2, 7, 11, 12, 13, 14, 41, 42, 43, 44, 45, 46, 47, 48, 49, 50, 51, 52, 53, 54, 55, 56], [8, 57, 58]] Tryz.f244 = some F } := by
  refine ⟨?F, ?h⟩
  case h =>
    conv => lhs; cbv
theorem c244 : Cert 244 T244.1 := cert_of T244.2 Tryz.func244
-- suffrage/nat.back
noncomputable def T245 : { F : AFunc // CT.func [[], [], [], [10, 11, 12, 13], [5, 6, 14, 15, 16, 17, 18, 19, 20, 21, 22, 23, 24, 25, 26], [27], [0, 1, 4, 7, 8, 9, 10, 28, 29, 30, 31, 32, 33, 34, 35]] Tryz.f245 = some F } := by
  refine ⟨?F, ?h⟩
  case h =>
    conv => lhs; cbv
theorem c245 : Cert 245 T245.1 := cert_of T245.2 Tryz.func245
-- slices.Equal[[]uint32,uint32]
noncomputable def T246 : { F : AFunc // CT.func [[4], [6, 7, 8, 9], [0, 1, 10], [10, 11], [], [14, 15], [5, 16, 17, 18, 19, 20, 21, 22, 23], [0, 1, 12, 13, 24], [24, 25], [0, 1, 12, 13, 14]] Tryz.f246 = some F } := by
  refine ⟨?F, ?h⟩
  case h =>
    conv => lhs; cbv
theorem c246 : Cert 246 T246.1 := cert_of T246.2 Tryz.func246
-- suffrage/nat.times
noncomputable def T247 : { F : AFunc // CT.func [[], [], [], [12, 13, 14, 15], [8, 16, 17, 18, 19, 20, 21, 22, 23, 24, 25, 26, 27, 28], [7, 29, 30, 31, 32, 33], [34, 35], [36], [0, 1, 2, 6, 9, 10, 11, 12, 37, 38, 39, 40, 41, 42, 43, 44, 45]] Tryz.f247 = some F } := by
  refine ⟨?F, ?h⟩
  case h =>
    conv => lhs; cbv
theorem c247 : Cert 247 T247.1 := cert_of T247.2 Tryz.func247
-- suffrage/nat.fits
noncomputable def T248 : { F : AFunc // CT.func [[2, 3], [4, 5], [6, 7], [0, 8], [0, 8, 9]] Tryz.f248 = some F } := by
  refine ⟨?F, ?h⟩
  case h =>
    conv => lhs; cbv
theorem c248 : Cert 248 T248.1 := cert_of T248.2 Tryz.func248
-- (*suffrage/sheet.reader).row
noncomputable def T249 : { F : AFunc // CT.func [[0, 1, 4], [2, 3, 5]] Tryz.f249 = some F } := by
  refine ⟨?F, ?h⟩
  case h =>
    conv => lhs; cbv
theorem c249 : Cert 249 T249.1 := cert_of T249.2 Tryz.func249
-- slices.Index[[]bool,bool]
noncomputable def T250 : { F : AFunc // CT.func [[4], [6], [], [9, 10], [11, 12, 13, 14, 15], [0, 1, 5, 7, 8, 16, 17], [5, 16, 18], [0, 1, 7, 8, 9]] Tryz.f250 = some F } := by
  refine ⟨?F, ?h⟩
  case h =>
    conv => lhs; cbv
theorem c250 : Cert 250 T250.1 := cert_of T250.2 Tryz.func250
-- slices.Contains[[]bool,bool]
noncomputable def T251 : { F : AFunc // CT.func [[4], [0, 1, 5, 6, 7, 8]] Tryz.f251 = some F } := by
  refine ⟨?F, ?h⟩
  case h =>
    conv => lhs; cbv
theorem c251 : Cert 251 T251.1 := cert_of T251.2 Tryz.func251
-- slices.Collect[int]
noncomputable def T252 : { F : AFunc // CT.func [[2], [0, 3, 4]] Tryz.f252 = some F } := by
  refine ⟨?F, ?h⟩
  case h =>
    conv => lhs; cbv
theorem c252 : Cert 252 T252.1 := cert_of T252.2 Tryz.func252
-- slices.rotateLeft[suffrage/api.Row]
noncomputable def T253 : { F : AFunc // CT.func [[4, 5, 6, 7], [1, 8, 9, 10, 11], [0, 12, 13]] Tryz.f253 = some F } := by
  refine ⟨?F, ?h⟩
  case h =>
    conv => lhs; cbv
theorem c253 : Cert 253 T253.1 := cert_of T253.2 Tryz.func253
-- cmp.Less[int]
noncomputable def T254 : { F : AFunc // CT.func [[4], [0, 1, 5, 6, 7, 8, 9, 10, 11, 12, 13, 14, 15, 16]] Tryz.f254 = some F } := by
  refine ⟨?F, ?h⟩
  case h =>
    conv => lhs; cbv
theorem c254 : Cert 254 T254.1 := cert_of T254.2 Tryz.func254
-- (*suffrage/choose.Count).Seats
noncomputable def T255 : { F : AFunc // CT.func [[1], [9, 10, 11], [2], [], [14, 15, 16, 17, 18, 19], [20, 21, 22, 23], [8, 24, 25, 26], [27], [0, 4, 7, 12, 13, 14, 28]] Tryz.f255 = some F } := by
  refine ⟨?F, ?h⟩
  case h =>
    conv => lhs; cbv
theorem c255 : Cert 255 T255.1 := cert_of T255.2 Tryz.func255
-- slices.Sorted[int]
noncomputable def T256 : { F : AFunc // CT.func [[2], [0, 4, 5], [6, 7], [3, 8]] Tryz.f256 = some F } := by
  refine ⟨?F, ?h⟩
  case h =>
    conv => lhs; cbv
theorem c256 : Cert 256 T256.1 := cert_of T256.2 Tryz.func256
-- slices.Values[[]int,int]
noncomputable def T257 : { F : AFunc // CT.func [[0, 2], [1, 3]] Tryz.f257 = some F } := by
  refine ⟨?F, ?h⟩
  case h =>
    conv => lhs; cbv
theorem c257 : Cert 257 T257.1 := cert_of T257.2 Tryz.func257
-- slices.Index[[]int,int]
noncomputable def T258 : { F : AFunc // CT.func [[4], [6], [], [9, 10], [11, 12, 13, 14, 15], [0, 1, 5, 7, 8, 16, 17], [5, 16, 18], [0, 1, 7, 8, 9]] Tryz.f258 = some F } := by
  refine ⟨?F, ?h⟩
  case h =>
    conv => lhs; cbv
theorem c258 : Cert 258 T258.1 := cert_of T258.2 Tryz.func258
-- slices.MinFunc[[]int,int]
noncomputable def T259 : { F : AFunc // CT.func [[4], [7, 8], [9, 10], [9, 11, 12, 13], [], [14, 15, 16], [18, 19, 27], [17, 20, 21, 22, 23, 24, 25, 26], [27, 28, 29, 30, 31], [0, 1, 5, 6, 17, 32]] Tryz.f259 = some F } := by
  refine ⟨?F, ?h⟩
  case h =>
    conv => lhs; cbv
theorem c259 : Cert 259 T259.1 := cert_of T259.2 Tryz.func259
end Go.Proofs.YtmkaekblmbjhpaaGreat
