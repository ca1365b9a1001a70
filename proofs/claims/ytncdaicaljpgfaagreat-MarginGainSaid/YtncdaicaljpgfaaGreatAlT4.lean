/- The functions in the abstract language, worked out by Lean. -/
import Derived.Test.YtncdaicaljpgfaaGreatAlPc
set_option linter.unusedVariables false
set_option maxHeartbeats 1000000
set_option maxRecDepth 100000
namespace Go.Proofs.YtncdaicaljpgfaaGreat
-- (*suffrage/gregory.count).pass
noncomputable def T227 : { F : AFunc // CT.func [[10, 11, 12], [], [16, 17, 18, 19], [20, 21, 22, 23, 24, 25], [8, 9, 26, 27, 28, 29, 30], [6, 7, 31, 32, 33, 34, 35, 36, 37, 38, 39, 40, 41, 42, 43, 44, 45, 46, 47, 48, 49], [6, 7, 31, 50]] Tryz.f227 = some F } := by
  refine ⟨?F, ?h⟩
  case h =>
    conv => lhs; cbv
theorem c227 : Cert 227 T227.1 := cert_of T227.2 Tryz.func227
-- (*suffrage/meek.count).elect
noncomputable def T228 : { F : AFunc // CT.func [[1, 5, 6, 7, 8, 9, 10], [11, 12, 13, 14, 15, 16, 17, 18, 19, 20, 21, 22, 23, 24, 25, 26, 27, 28], [29, 30, 31, 32, 33, 34, 35, 36, 37, 38, 39, 40], [0, 4, 41, 42, 43]] Tryz.f228 = some F } := by
  refine ⟨?F, ?h⟩
  case h =>
    conv => lhs; cbv
theorem c228 : Cert 228 T228.1 := cert_of T228.2 Tryz.func228
-- (*suffrage/meek.count).has
noncomputable def T229 : { F : AFunc // CT.func [[4], [0, 1, 5, 6, 7, 8, 9, 10, 11]] Tryz.f229 = some F } := by
  refine ⟨?F, ?h⟩
  case h =>
    conv => lhs; cbv
theorem c229 : Cert 229 T229.1 := cert_of T229.2 Tryz.func229
-- (*suffrage/meek.count).drops$1
noncomputable def T230 : { F : AFunc // CT.func [[3], [0, 1, 4, 5, 6, 7, 8, 9, 10, 11, 12, 13, 14, 15, 16]] Tryz.f230 = some F } := by
  refine ⟨?F, ?h⟩
  case h =>
    conv => lhs; cbv
theorem c230 : Cert 230 T230.1 := cert_of T230.2 Tryz.func230
-- (*suffrage/meek.count).leave
noncomputable def T231 : { F : AFunc // CT.func [[1], [0, 3, 4, 5, 6, 7, 8, 9, 10, 11, 12]] Tryz.f231 = some F } := by
  refine ⟨?F, ?h⟩
  case h =>
    conv => lhs; cbv
theorem c231 : Cert 231 T231.1 := cert_of T231.2 Tryz.func231
-- suffrage/meek.Keep
noncomputable def T232 : { F : AFunc // CT.func [[6, 7], [10, 11, 12, 13, 14, 15, 16, 17, 18, 19, 20, 21, 22, 23], [0, 1, 2, 24], [1, 2, 24, 25, 26, 27, 28, 29, 30, 31, 32, 33], [9, 34], [0, 8, 35], [0, 8, 35, 36, 37, 38]] Tryz.f232 = some F } := by
  refine ⟨?F, ?h⟩
  case h =>
    conv => lhs; cbv
theorem c232 : Cert 232 T232.1 := cert_of T232.2 Tryz.func232
-- suffrage/meek.parts
noncomputable def T233 : { F : AFunc // CT.func [[6], [], [0], [], [14, 15, 16], [10, 17, 18, 19, 20, 21, 22, 23, 24, 25], [8, 26, 27, 28, 29], [9, 30, 31, 32], [33], [1, 2, 11, 12, 13, 14, 34]] Tryz.f233 = some F } := by
  refine ⟨?F, ?h⟩
  case h =>
    conv => lhs; cbv
theorem c233 : Cert 233 T233.1 := cert_of T233.2 Tryz.func233
-- (*suffrage/meek.count).turn$1
noncomputable def T234 : { F : AFunc // CT.func [[0, 1, 2, 3, 6, 7, 8, 9, 10, 11, 12, 13, 14, 15, 16, 17, 18]] Tryz.f234 = some F } := by
  refine ⟨?F, ?h⟩
  case h =>
    conv => lhs; cbv
theorem c234 : Cert 234 T234.1 := cert_of T234.2 Tryz.func234
-- suffrage/meek.Quota
noncomputable def T235 : { F : AFunc // CT.func [[6, 7], [8, 9, 10, 11, 12, 13, 14, 15, 16, 17, 18, 19, 20, 21, 22, 23, 24, 25, 26, 27, 28, 29, 30], [0, 1, 2, 31], [0, 1, 2, 31, 32, 33, 34, 35, 36, 37, 38, 39]] Tryz.f235 = some F } := by
  refine ⟨?F, ?h⟩
  case h =>
    conv => lhs; cbv
theorem c235 : Cert 235 T235.1 := cert_of T235.2 Tryz.func235
-- suffrage/quota.Ratio
noncomputable def T236 : { F : AFunc // CT.func [[3], [4, 5, 6], [0, 7, 8], [0, 7, 9, 10, 11, 12]] Tryz.f236 = some F } := by
  refine ⟨?F, ?h⟩
  case h =>
    conv => lhs; cbv
theorem c236 : Cert 236 T236.1 := cert_of T236.2 Tryz.func236
-- suffrage/phragmen.approvals
noncomputable def T237 : { F : AFunc // CT.func [[0, 2], [1, 3, 4, 5, 6, 7, 8, 9, 10]] Tryz.f237 = some F } := by
  refine ⟨?F, ?h⟩
  case h =>
    conv => lhs; cbv
theorem c237 : Cert 237 T237.1 := cert_of T237.2 Tryz.func237
-- suffrage/phragmen.supports
noncomputable def T238 : { F : AFunc // CT.func [[0, 4], [1, 2, 5, 6, 7, 8]] Tryz.f238 = some F } := by
  refine ⟨?F, ?h⟩
  case h =>
    conv => lhs; cbv
theorem c238 : Cert 238 T238.1 := cert_of T238.2 Tryz.func238
-- suffrage/ratio.Mul
noncomputable def T239 : { F : AFunc // CT.func [[0, 1, 5], [2, 3, 7, 8, 9], [6, 10, 11, 12, 13, 14, 15]] Tryz.f239 = some F } := by
  refine ⟨?F, ?h⟩
  case h =>
    conv => lhs; cbv
theorem c239 : Cert 239 T239.1 := cert_of T239.2 Tryz.func239
-- suffrage/ratio.Add
noncomputable def T240 : { F : AFunc // CT.func [[0, 1, 5], [2, 3, 7, 8, 9], [6, 10, 11, 12, 13, 14, 15]] Tryz.f240 = some F } := by
  refine ⟨?F, ?h⟩
  case h =>
    conv => lhs; cbv
theorem c240 : Cert 240 T240.1 := cert_of T240.2 Tryz.func240
-- suffrage/ratio.Div
noncomputable def T241 : { F : AFunc // CT.func [[0, 1, 5], [2, 3, 7, 8, 9], [6, 10, 11, 12, 13, 14, 15]] Tryz.f241 = some F } := by
  refine ⟨?F, ?h⟩
  case h =>
    conv => lhs; cbv
theorem c241 : Cert 241 T241.1 := cert_of T241.2 Tryz.func241
-- slices.Clone[[]uint32,uint32]
noncomputable def T242 : { F : AFunc // CT.func [[2], [3], [0, 4], [0, 4, 5, 6, 7]] Tryz.f242 = some F } := by
  refine ⟨?F, ?h⟩
  case h =>
    conv => lhs; cbv
theorem c242 : Cert 242 T242.1 := cert_of T242.2 Tryz.func242
-- suffrage/phragmen.cheapest$1
noncomputable def T243 : { F : AFunc // CT.func [[5], [0, 1, 2, 7, 8, 9, 10, 11, 12, 13, 14, 15, 16, 17], [6, 18]] Tryz.f243 = some F } := by
  refine ⟨?F, ?h⟩
  case h =>
    conv => lhs; cbv
theorem c243 : Cert 243 T243.1 := cert_of T243.2 Tryz.func243
-- suffrage/ratio.Cmp
noncomputable def T244 : { F : AFunc // CT.func [[0, 1, 4, 5], [14, 15, 16, 17, 18, 19, 20], [2, 3, 21], [2, 3, 21, 22, 23, 24, 25, 26, 27, 28], [29, 30, 31, 32, 33, 34], [6, 7, 8, 35, 36, 37, 38, 39, 40], [6, 8, 35, 41, 42, 43, 44, 45, 46], [47], [7, 9, 10, 11, 48, 49], [9, 10, 11, 13, 48, 50, 51, 52, 53, 54, 55], [7, 12, 56, 57, 58]] Tryz.f244 = some F } := by
  refine ⟨?F, ?h⟩
  case h =>
    conv => lhs; cbv
theorem c244 : Cert 244 T244.1 := cert_of T244.2 Tryz.func244
-- slices.Sort[[]int,int]
noncomputable def T245 : { F : AFunc // CT.func [[3, 4], [0, 2, 5, 6, 7, 8, 9, 10]] Tryz.f245 = some F } := by
  refine ⟨?F, ?h⟩
  case h =>
    conv => lhs; cbv
theorem c245 : Cert 245 T245.1 := cert_of T245.2 Tryz.func245
-- suffrage/lists.votes
noncomputable def T246 : { F : AFunc // CT.func [[0, 2], [6, 7, 8], [1, 9], [], [13, 14, 15], [16, 17, 18], [5, 19, 20, 21, 22, 23, 24, 25, 26, 27, 28, 29, 30], [5, 19, 31, 32, 33, 34], [35], [10, 11, 12, 13, 36, 37]] Tryz.f246 = some F } := by
  refine ⟨?F, ?h⟩
  case h =>
    conv => lhs; cbv
theorem c246 : Cert 246 T246.1 := cert_of T246.2 Tryz.func246
-- suffrage/lists.best[suffrage/lists.quotient]
noncomputable def T247 : { F : AFunc // CT.func [[], [0], [], [13, 14, 15], [], [16, 17], [18, 19, 20, 21, 22, 23, 24, 25, 26, 27, 28], [18, 29], [30], [9, 30, 31], [8, 32, 33, 34, 35, 36], [8, 32, 37], [1, 2, 10, 11, 12, 13, 38]] Tryz.f247 = some F } := by
  refine ⟨?F, ?h⟩
  case h =>
    conv => lhs; cbv
theorem c247 : Cert 247 T247.1 := cert_of T247.2 Tryz.func247
-- (suffrage/lists.method).allocate$1
noncomputable def T248 : { F : AFunc // CT.func [[], [0, 1, 2, 3, 6, 7, 8, 9, 10, 11, 12, 13, 14, 15, 16, 17]] Tryz.f248 = some F } := FN _ Tryz.f248 18 4 [.cell 5 2 false] ⟨_, by conv => lhs; cbv⟩
theorem c248 : Cert 248 T248.1 := cert_of T248.2 Tryz.func248
-- (suffrage/lists.method).allocate$2
noncomputable def T249 : { F : AFunc // CT.func [[0, 1, 4], [2, 3, 5, 6, 7, 8, 9, 10, 11, 12, 13, 14, 15]] Tryz.f249 = some F } := FN _ Tryz.f249 16 2 [.t 4] ⟨_, by conv => lhs; cbv⟩
theorem c249 : Cert 249 T249.1 := cert_of T249.2 Tryz.func249
-- slices.Repeat[[]int,int]
noncomputable def T250 : { F : AFunc // CT.func [[4], [9], [10, 11], [1, 10, 12, 13, 14, 15, 16, 17, 18, 19, 20], [5, 21, 22, 23, 24, 25], [26, 27], [6, 26, 28, 29, 30], [0, 31, 32, 33], [34, 35, 36], [37, 38, 39, 40, 41, 42, 43, 44, 45, 46], [7, 8, 37, 47]] Tryz.f250 = some F } := by
  refine ⟨?F, ?h⟩
  case h =>
    conv => lhs; cbv
theorem c250 : Cert 250 T250.1 := cert_of T250.2 Tryz.func250
-- suffrage/lists.best[int]
noncomputable def T251 : { F : AFunc // CT.func [[], [0], [], [13, 14, 15], [], [16, 17], [18, 19, 20, 21, 22, 23, 24, 25, 26, 27, 28], [18, 29], [30], [9, 30, 31], [8, 32, 33, 34, 35, 36], [8, 32, 37], [1, 2, 10, 11, 12, 13, 38]] Tryz.f251 = some F } := by
  refine ⟨?F, ?h⟩
  case h =>
    conv => lhs; cbv
theorem c251 : Cert 251 T251.1 := cert_of T251.2 Tryz.func251
-- suffrage/lists.remainders$1
noncomputable def T252 : { F : AFunc // CT.func [[3], [0, 1, 4, 5, 6, 7]] Tryz.f252 = some F } := by
  refine ⟨?F, ?h⟩
  case h =>
    conv => lhs; cbv
theorem c252 : Cert 252 T252.1 := cert_of T252.2 Tryz.func252
-- suffrage/lists.remainders$2
noncomputable def T253 : { F : AFunc // CT.func [[3], [0, 1, 4, 5, 6]] Tryz.f253 = some F } := by
  refine ⟨?F, ?h⟩
  case h =>
    conv => lhs; cbv
theorem c253 : Cert 253 T253.1 := cert_of T253.2 Tryz.func253
-- suffrage/nat.Check
noncomputable def T254 : { F : AFunc // CT.func [[2], [4, 5], [7, 8], [0, 3, 6], [0, 3, 6, 10, 11, 12, 13, 14, 15, 16, 17, 18, 19], [9], [9]] Tryz.f254 = some F } := by
  refine ⟨?F, ?h⟩
  case h =>
    conv => lhs; cbv
theorem c254 : Cert 254 T254.1 := cert_of T254.2 Tryz.func254
-- suffrage/nat.Gcd
noncomputable def T255 : { F : AFunc // CT.func [[4, 5], [9, 10, 11], [12], [0, 1, 6, 13, 14], [6, 13, 15, 16], [17, 18], [0, 7, 19, 20, 21, 22, 23, 24, 25], [8, 26, 27], [0, 1, 19, 28, 29]] Tryz.f255 = some F } := by
  refine ⟨?F, ?h⟩
  case h =>
    conv => lhs; cbv
theorem c255 : Cert 255 T255.1 := cert_of T255.2 Tryz.func255
-- suffrage/nat.Same
noncomputable def T256 : { F : AFunc // CT.func [[4], [0, 1, 5, 6, 7]] Tryz.f256 = some F } := by
  refine ⟨?F, ?h⟩
  case h =>
    conv => lhs; cbv
theorem c256 : Cert 256 T256.1 := cert_of T256.2 Tryz.func256
-- suffrage/nat.both
noncomputable def T257 : { F : AFunc // CT.func [[4], [0, 6, 7], [8], [1, 5, 9, 10], [1, 5, 9, 11, 12]] Tryz.f257 = some F } := by
  refine ⟨?F, ?h⟩
  case h =>
    conv => lhs; cbv
theorem c257 : Cert 257 T257.1 := cert_of T257.2 Tryz.func257
-- suffrage/nat.divide
noncomputable def T258 : { F : AFunc // CT.func [[4, 5], [9, 10, 11, 12], [0, 1, 8, 13, 14], [8, 16, 17, 18], [0, 1, 15, 19, 20, 21, 22, 23, 24, 25, 26], [6, 7, 27, 28, 29, 30], [0, 1, 15, 31, 32, 33, 34, 35]] Tryz.f258 = some F } := by
  refine ⟨?F, ?h⟩
  case h =>
    conv => lhs; cbv
theorem c258 : Cert 258 T258.1 := cert_of T258.2 Tryz.func258
-- slices.order2CmpFunc[suffrage/margin.share]
noncomputable def T259 : { F : AFunc // CT.func [[10, 11], [0, 4, 12, 13, 14, 15, 16, 17, 18, 19, 20, 21], [3, 22, 23, 24, 25, 26, 27], [1, 2, 28, 29], [1, 2, 3, 22, 30, 31]] Tryz.f259 = some F } := by
  refine ⟨?F, ?h⟩
  case h =>
    conv => lhs; cbv
theorem c259 : Cert 259 T259.1 := cert_of T259.2 Tryz.func259
-- slices.Collect[int]
noncomputable def T260 : { F : AFunc // CT.func [[2], [0, 3, 4]] Tryz.f260 = some F } := by
  refine ⟨?F, ?h⟩
  case h =>
    conv => lhs; cbv
theorem c260 : Cert 260 T260.1 := cert_of T260.2 Tryz.func260
-- slices.Values[[]int,int]$1
noncomputable def T261 : { F : AFunc // CT.func [[1], [], [8, 9, 10], [4, 11, 12, 13], [14, 15]] Tryz.f261 = some F } := by
  refine ⟨?F, ?h⟩
  case h =>
    conv => lhs; cbv
theorem c261 : Cert 261 T261.1 := cert_of T261.2 Tryz.func261
-- suffrage/nat.trim
noncomputable def T262 : { F : AFunc // CT.func [[2], [4, 5], [6, 7, 8, 9, 10, 11, 12, 13, 14], [15, 16, 17], [0, 3, 15, 18, 19, 20, 21]] Tryz.f262 = some F } := by
  refine ⟨?F, ?h⟩
  case h =>
    conv => lhs; cbv
theorem c262 : Cert 262 T262.1 := cert_of T262.2 Tryz.func262
-- slices.MinFunc[[]int,int]
noncomputable def T263 : { F : AFunc // CT.func [[4], [7, 8], [9, 10], [9, 11, 12, 13], [], [14, 15, 16], [18, 19, 27], [17, 20, 21, 22, 23, 24, 25, 26], [27, 28, 29, 30, 31], [0, 1, 5, 6, 17, 32]] Tryz.f263 = some F } := by
  refine ⟨?F, ?h⟩
  case h =>
    conv => lhs; cbv
theorem c263 : Cert 263 T263.1 := cert_of T263.2 Tryz.func263
-- (*suffrage/choose.Count).first$1
noncomputable def T264 : { F : AFunc // CT.func [[5], [0, 1, 2, 6, 7, 8, 9, 10, 11, 12, 13, 14, 15, 16, 17, 18]] Tryz.f264 = some F } := by
  refine ⟨?F, ?h⟩
  case h =>
    conv => lhs; cbv
theorem c264 : Cert 264 T264.1 := cert_of T264.2 Tryz.func264
-- suffrage/ranked.check
noncomputable def T265 : { F : AFunc // CT.func [[0, 6], [2, 8, 9, 10, 11, 12, 13, 14, 15, 16, 17, 18, 19], [1, 3, 7], [1, 3, 7, 21, 22, 23, 24], [20], [20]] Tryz.f265 = some F } := by
  refine ⟨?F, ?h⟩
  case h =>
    conv => lhs; cbv
theorem c265 : Cert 265 T265.1 := cert_of T265.2 Tryz.func265
-- slices.SortStableFunc[[]suffrage/api.Link,suffrage/api.Link]
noncomputable def T266 : { F : AFunc // CT.func [[0, 1, 4, 5, 6, 7, 8]] Tryz.f266 = some F } := by
  refine ⟨?F, ?h⟩
  case h =>
    conv => lhs; cbv
theorem c266 : Cert 266 T266.1 := cert_of T266.2 Tryz.func266
-- suffrage/ranked.Order$1
noncomputable def T267 : { F : AFunc // CT.func [[0, 1, 4], [2, 3, 5, 6, 7, 8, 9, 10, 11, 12, 13, 14, 15, 16]] Tryz.f267 = some F } := by
  refine ⟨?F, ?h⟩
  case h =>
    conv => lhs; cbv
theorem c267 : Cert 267 T267.1 := cert_of T267.2 Tryz.func267
-- cmp.Or[int]
noncomputable def T268 : { F : AFunc // CT.func [[2], [], [0], [], [9, 10, 11], [12, 13], [3, 5, 6, 7, 8, 14, 15], [5, 14, 16], [3, 6, 7, 8, 9, 17]] Tryz.f268 = some F } := by
  refine ⟨?F, ?h⟩
  case h =>
    conv => lhs; cbv
theorem c268 : Cert 268 T268.1 := cert_of T268.2 Tryz.func268
-- suffrage/ranked.Leads$1
noncomputable def T269 : { F : AFunc // CT.func [[6], [1], [], [12, 13, 14, 15], [16, 17, 18, 19, 20, 21, 22, 23, 24], [7, 25, 26, 27, 28], [8, 29, 30, 31, 32, 33, 34, 35, 36, 37], [0, 2, 3, 4, 9, 10, 11, 38], [7, 8, 25, 38, 39], [0, 2, 3, 4, 9, 10, 11, 12]] Tryz.f269 = some F } := by
  refine ⟨?F, ?h⟩
  case h =>
    conv => lhs; cbv
theorem c269 : Cert 269 T269.1 := cert_of T269.2 Tryz.func269
-- slices.Reverse[[]int,int]
noncomputable def T270 : { F : AFunc // CT.func [[4, 5, 6], [7, 8], [10, 11, 12, 13], [9, 14, 15, 16, 17, 18, 19, 20, 21, 22, 23, 24, 25, 26, 27]] Tryz.f270 = some F } := by
  refine ⟨?F, ?h⟩
  case h =>
    conv => lhs; cbv
theorem c270 : Cert 270 T270.1 := cert_of T270.2 Tryz.func270
-- suffrage/choose.Least$1
noncomputable def T271 : { F : AFunc // CT.func [[3], [0, 1, 4, 5, 6, 7]] Tryz.f271 = some F } := by
  refine ⟨?F, ?h⟩
  case h =>
    conv => lhs; cbv
theorem c271 : Cert 271 T271.1 := cert_of T271.2 Tryz.func271
-- suffrage/runoff.Firsts$1
noncomputable def T272 : { F : AFunc // CT.func [[3], [0, 1, 4, 5, 6, 7, 8, 9, 10, 11, 12, 13]] Tryz.f272 = some F } := by
  refine ⟨?F, ?h⟩
  case h =>
    conv => lhs; cbv
theorem c272 : Cert 272 T272.1 := cert_of T272.2 Tryz.func272
-- suffrage/quota.may
noncomputable def T273 : { F : AFunc // CT.func [[4], [0, 1, 5, 6, 7, 8, 9, 10]] Tryz.f273 = some F } := by
  refine ⟨?F, ?h⟩
  case h =>
    conv => lhs; cbv
theorem c273 : Cert 273 T273.1 := cert_of T273.2 Tryz.func273
-- (*suffrage/gregory.count).next
noncomputable def T274 : { F : AFunc // CT.func [[0, 1, 4, 5], [2, 7, 8, 9, 10], [11], [3, 6, 12], [3, 6, 12, 13, 14, 15, 16, 17]] Tryz.f274 = some F } := by
  refine ⟨?F, ?h⟩
  case h =>
    conv => lhs; cbv
theorem c274 : Cert 274 T274.1 := cert_of T274.2 Tryz.func274
-- suffrage/gregory.Pass
noncomputable def T275 : { F : AFunc // CT.func [[6, 7], [10, 11, 12, 13, 14, 15, 16, 17, 18, 19, 20, 21, 22, 23], [0, 1, 2, 24], [0, 1, 2, 24, 25, 26, 27, 28, 29, 30, 31, 32, 33], [9, 34], [8, 35], [8, 35, 36]] Tryz.f275 = some F } := by
  refine ⟨?F, ?h⟩
  case h =>
    conv => lhs; cbv
theorem c275 : Cert 275 T275.1 := cert_of T275.2 Tryz.func275
-- (*suffrage/meek.count).leave$1
noncomputable def T276 : { F : AFunc // CT.func [[3], [0, 1, 4, 5, 6]] Tryz.f276 = some F } := by
  refine ⟨?F, ?h⟩
  case h =>
    conv => lhs; cbv
theorem c276 : Cert 276 T276.1 := cert_of T276.2 Tryz.func276
-- suffrage/quota.Share
noncomputable def T277 : { F : AFunc // CT.func [[6, 7], [12, 13, 14, 15, 16, 17], [0, 1, 2, 11], [11, 19, 20], [0, 1, 2, 18], [0, 1, 2, 9, 18, 21, 22, 23, 24, 25, 26, 27, 28], [10, 29], [8, 30], [8, 30, 31]] Tryz.f277 = some F } := by
  refine ⟨?F, ?h⟩
  case h =>
    conv => lhs; cbv
theorem c277 : Cert 277 T277.1 := cert_of T277.2 Tryz.func277
-- suffrage/quota.Up
noncomputable def T278 : { F : AFunc // CT.func [[4, 5], [9, 10, 11, 12], [0, 1, 13], [0, 1, 13, 14, 15, 16, 17, 18, 19, 20], [7, 21], [22, 23, 24], [8, 22, 25, 26, 27, 28, 29], [6, 30], [6, 30, 31]] Tryz.f278 = some F } := by
  refine ⟨?F, ?h⟩
  case h =>
    conv => lhs; cbv
theorem c278 : Cert 278 T278.1 := cert_of T278.2 Tryz.func278
-- suffrage/quota.all
noncomputable def T279 : { F : AFunc // CT.func [[2], [0], [], [8, 9, 10], [4, 11, 12], [5, 6, 7, 13], [13, 14], [5, 6, 7, 8]] Tryz.f279 = some F } := by
  refine ⟨?F, ?h⟩
  case h =>
    conv => lhs; cbv
theorem c279 : Cert 279 T279.1 := cert_of T279.2 Tryz.func279
-- (suffrage/ratio.pair).does
noncomputable def T280 : { F : AFunc // CT.func [[0, 5], [2, 6, 7, 8, 9, 10, 11, 12, 13, 14], [1, 15, 16], [1, 15, 17, 18, 19, 20]] Tryz.f280 = some F } := by
  refine ⟨?F, ?h⟩
  case h =>
    conv => lhs; cbv
theorem c280 : Cert 280 T280.1 := cert_of T280.2 Tryz.func280
end Go.Proofs.YtncdaicaljpgfaaGreat
