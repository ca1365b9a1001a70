/- The functions in the abstract language, worked out by Lean. -/
import Derived.Test.YtmkaekblmbjhpaaGreatAlX
set_option linter.unusedVariables false
set_option maxHeartbeats 1000000
set_option maxRecDepth 100000
namespace Go.Proofs.YtmkaekblmbjhpaaGreat
-- (*suffrage/choose.Count).first$1
noncomputable def T260 : { F : AFunc // CT.func [[5], [0, 1, 2, 6, 7, 8, 9, 10, 11, 12, 13, 14, 15, 16, 17, 18]] Tryz.f260 = some F } := by
  refine ⟨?F, ?h⟩
  case h =>
    conv => lhs; cbv
theorem c260 : Cert 260 T260.1 := cert_of T260.2 Tryz.func260
-- suffrage/ranked.check
noncomputable def T261 : { F : AFunc // CT.func [[0, 6], [2, 8, 9, 10, 11, 12, 13, 14, 15, 16, 17, 18, 19], [1, 3, 7], [1, 3, 7, 21, 22, 23, 24], [20], [20]] Tryz.f261 = some F } := by
  refine ⟨?F, ?h⟩
  case h =>
    conv => lhs; cbv
theorem c261 : Cert 261 T261.1 := cert_of T261.2 Tryz.func261
-- slices.SortStableFunc[[]suffrage/api.Link,suffrage/api.Link]
noncomputable def T262 : { F : AFunc // CT.func [[0, 1, 4, 5, 6, 7, 8]] Tryz.f262 = some F } := by
  refine ⟨?F, ?h⟩
  case h =>
    conv => lhs; cbv
theorem c262 : Cert 262 T262.1 := cert_of T262.2 Tryz.func262
-- suffrage/ranked.Order$1
noncomputable def T263 : { F : AFunc // CT.func [[0, 1, 4], [2, 3, 5, 6, 7, 8, 9, 10, 11, 12, 13, 14, 15, 16]] Tryz.f263 = some F } := by
  refine ⟨?F, ?h⟩
  case h =>
    conv => lhs; cbv
theorem c263 : Cert 263 T263.1 := cert_of T263.2 Tryz.func263
-- cmp.Or[int]
noncomputable def T264 : { F : AFunc // CT.func [[2], [], [0], [], [9, 10, 11], [12, 13], [3, 5, 6, 7, 8, 14, 15], [5, 14, 16], [3, 6, 7, 8, 9, 17]] Tryz.f264 = some F } := by
  refine ⟨?F, ?h⟩
  case h =>
    conv => lhs; cbv
theorem c264 : Cert 264 T264.1 := cert_of T264.2 Tryz.func264
-- suffrage/ranked.Leads$1
noncomputable def T265 : { F : AFunc // CT.func [[6], [1], [], [12, 13, 14, 15], [16, 17, 18, 19, 20, 21, 22, 23, 24], [7, 25, 26, 27, 28], [8, 29, 30, 31, 32, 33, 34, 35, 36, 37], [0, 2, 3, 4, 9, 10, 11, 38], [7, 8, 25, 38, 39], [0, 2, 3, 4, 9, 10, 11, 12]] Tryz.f265 = some F } := by
  refine ⟨?F, ?h⟩
  case h =>
    conv => lhs; cbv
theorem c265 : Cert 265 T265.1 := cert_of T265.2 Tryz.func265
-- slices.Reverse[[]int,int]
noncomputable def T266 : { F : AFunc // CT.func [[4, 5, 6], [7, 8], [10, 11, 12, 13], [9, 14, 15, 16, 17, 18, 19, 20, 21, 22, 23, 24, 25, 26, 27]] Tryz.f266 = some F } := by
  refine ⟨?F, ?h⟩
  case h =>
    conv => lhs; cbv
theorem c266 : Cert 266 T266.1 := cert_of T266.2 Tryz.func266
-- suffrage/choose.Least$1
noncomputable def T267 : { F : AFunc // CT.func [[3], [0, 1, 4, 5, 6, 7]] Tryz.f267 = some F } := by
  refine ⟨?F, ?h⟩
  case h =>
    conv => lhs; cbv
theorem c267 : Cert 267 T267.1 := cert_of T267.2 Tryz.func267
-- suffrage/runoff.Firsts$1
noncomputable def T268 : { F : AFunc // CT.func [[3], [0, 1, 4, 5, 6, 7, 8, 9, 10, 11, 12, 13]] Tryz.f268 = some F } := by
  refine ⟨?F, ?h⟩
  case h =>
    conv => lhs; cbv
theorem c268 : Cert 268 T268.1 := cert_of T268.2 Tryz.func268
-- suffrage/quota.may
noncomputable def T269 : { F : AFunc // CT.func [[4], [0, 1, 5, 6, 7, 8, 9, 10]] Tryz.f269 = some F } := by
  refine ⟨?F, ?h⟩
  case h =>
    conv => lhs; cbv
theorem c269 : Cert 269 T269.1 := cert_of T269.2 Tryz.func269
-- (*suffrage/gregory.count).next
noncomputable def T270 : { F : AFunc // CT.func [[0, 1, 4, 5], [2, 7, 8, 9, 10], [11], [3, 6, 12], [3, 6, 12, 13, 14, 15, 16, 17]] Tryz.f270 = some F } := by
  refine ⟨?F, ?h⟩
  case h =>
    conv => lhs; cbv
theorem c270 : Cert 270 T270.1 := cert_of T270.2 Tryz.func270
-- suffrage/gregory.Pass
noncomputable def T271 : { F : AFunc // CT.func [[6, 7], [10, 11, 12, 13, 14, 15, 16, 17, 18, 19, 20, 21, 22, 23], [0, 1, 2, 24], [0, 1, 2, 24, 25, 26, 27, 28, 29, 30, 31, 32, 33], [9, 34], [8, 35], [8, 35, 36]] Tryz.f271 = some F } := by
  refine ⟨?F, ?h⟩
  case h =>
    conv => lhs; cbv
theorem c271 : Cert 271 T271.1 := cert_of T271.2 Tryz.func271
-- (*suffrage/meek.count).leave$1
noncomputable def T272 : { F : AFunc // CT.func [[3], [0, 1, 4, 5, 6]] Tryz.f272 = some F } := by
  refine ⟨?F, ?h⟩
  case h =>
    conv => lhs; cbv
theorem c272 : Cert 272 T272.1 := cert_of T272.2 Tryz.func272
-- suffrage/quota.Share
noncomputable def T273 : { F : AFunc // CT.func [[6, 7], [12, 13, 14, 15, 16, 17], [0, 1, 2, 11], [11, 19, 20], [0, 1, 2, 18], [0, 1, 2, 9, 18, 21, 22, 23, 24, 25, 26, 27, 28], [10, 29], [8, 30], [8, 30, 31]] Tryz.f273 = some F } := by
  refine ⟨?F, ?h⟩
  case h =>
    conv => lhs; cbv
theorem c273 : Cert 273 T273.1 := cert_of T273.2 Tryz.func273
-- suffrage/quota.Up
noncomputable def T274 : { F : AFunc // CT.func [[4, 5], [9, 10, 11, 12], [0, 1, 13], [0, 1, 13, 14, 15, 16, 17, 18, 19, 20], [7, 21], [22, 23, 24], [8, 22, 25, 26, 27, 28, 29], [6, 30], [6, 30, 31]] Tryz.f274 = some F } := by
  refine ⟨?F, ?h⟩
  case h =>
    conv => lhs; cbv
theorem c274 : Cert 274 T274.1 := cert_of T274.2 Tryz.func274
-- suffrage/quota.all
noncomputable def T275 : { F : AFunc // CT.func [[2], [0], [], [8, 9, 10], [4, 11, 12], [5, 6, 7, 13], [13, 14], [5, 6, 7, 8]] Tryz.f275 = some F } := by
  refine ⟨?F, ?h⟩
  case h =>
    conv => lhs; cbv
theorem c275 : Cert 275 T275.1 := cert_of T275.2 Tryz.func275
end Go.Proofs.YtmkaekblmbjhpaaGreat
