/- The functions in the abstract language, worked out by Lean. -/
import Derived.Test.YtkpfhnicdlgjiaaGreatAlPc
set_option linter.unusedVariables false
set_option maxHeartbeats 1000000
set_option maxRecDepth 100000
namespace Go.Proofs.YtkpfhnicdlgjiaaGreat
-- (*suffrage/choose.Count).Seats$2
noncomputable def T248 : { F : AFunc // CT.func [[3], [0, 1, 4, 5, 6]] Tryz.f248 = some F } := by
  refine ⟨?F, ?h⟩
  case h =>
    conv => lhs; cbv
theorem c248 : Cert 248 T248.1 := cert_of T248.2 Tryz.func248
-- suffrage/nat.both
noncomputable def T249 : { F : AFunc // CT.func [[4], [0, 6, 7], [8], [1, 5, 9, 10], [1, 5, 9, 11, 12]] Tryz.f249 = some F } := by
  refine ⟨?F, ?h⟩
  case h =>
    conv => lhs; cbv
theorem c249 : Cert 249 T249.1 := cert_of T249.2 Tryz.func249
-- suffrage/nat.divide
noncomputable def T250 : { F : AFunc // CT.func [[4, 5], [9, 10, 11, 12], [0, 1, 8, 13, 14], [8, 16, 17, 18], [0, 1, 15, 19, 20, 21, 22, 23, 24, 25, 26], [6, 7, 27, 28, 29, 30], [0, 1, 15, 31, 32, 33, 34, 35]] Tryz.f250 = some F } := by
  refine ⟨?F, ?h⟩
  case h =>
    conv => lhs; cbv
theorem c250 : Cert 250 T250.1 := cert_of T250.2 Tryz.func250
-- slices.stableCmpFunc[suffrage/api.Link]
noncomputable def T251 : { F : AFunc // CT.func [[], [10], [11, 12], [7, 13, 14, 15, 16, 17, 18], [19], [20, 21, 22], [7, 8, 13, 23, 24, 25, 26, 27], [28, 29], [30, 31, 32], [33, 34], [7, 35, 36, 37, 38, 39, 40, 41, 42, 43], [44], [45, 46, 47, 48], [8, 35, 49, 50, 51], [52, 53], [7, 9, 54, 55, 56, 57, 58, 59, 60], [7, 9, 54, 61, 62]] Tryz.f251 = some F } := by
  refine ⟨?F, ?h⟩
  case h =>
    conv => lhs; cbv
theorem c251 : Cert 251 T251.1 := cert_of T251.2 Tryz.func251
-- suffrage/quota.within
noncomputable def T252 : { F : AFunc // CT.func [[6], [0, 1, 2, 7, 8, 9, 10, 11, 12, 13, 14]] Tryz.f252 = some F } := by
  refine ⟨?F, ?h⟩
  case h =>
    conv => lhs; cbv
theorem c252 : Cert 252 T252.1 := cert_of T252.2 Tryz.func252
-- (*suffrage/gregory.count).next$1
def R_gregory_count_next_1_1 : AC := .ops false [⟨some 4, .load 1 true (.t 1), none, []⟩,
  ⟨some 5, .nilchk (.t 4), none, []⟩,
  ⟨some 6, .fa (.t 5) 2, none, []⟩,
  ⟨some 7, .load 1 true (.t 6), none, []⟩,
  ⟨some 8, .mov (.t 0), none, []⟩,
  ⟨some 9, .ia 1 (.t 7) (.t 8), none, []⟩,
  ⟨some 10, .load 1 true (.t 9), none, []⟩,
  ⟨some 11, .call (.meth (.t 10) [(174, 186), (183, 304), (242, 306)]) [], none, []⟩,
  ⟨some 3, .mov (.t 11), none, []⟩] [0, 1, 4, 5, 6, 7, 8, 9, 10, 11]
noncomputable def T253 : { F : AFunc // CT.func [[3], [0, 1, 4, 5, 6, 7, 8, 9, 10, 11]] Tryz.f253 = some F } := FN _ Tryz.f253 12 2 [.t 3] (PC.seq ⟨_, by conv => lhs; cbv⟩ (PC.seq ⟨R_gregory_count_next_1_1, by kernel_rfl⟩ ⟨_, by conv => lhs; cbv⟩))
theorem c253 : Cert 253 T253.1 := cert_of T253.2 Tryz.func253
-- suffrage/quota.product
noncomputable def T254 : { F : AFunc // CT.func [[6, 7, 8], [], [0, 1, 12, 13, 14, 15, 16, 17, 18, 19, 20, 21], [22, 23, 24, 25], [2, 9, 26], [2, 9, 26, 27, 28, 29, 30, 31, 32, 33, 34, 35, 36], [10, 11, 37, 38, 39, 40, 41, 42, 43]] Tryz.f254 = some F } := by
  refine ⟨?F, ?h⟩
  case h =>
    conv => lhs; cbv
theorem c254 : Cert 254 T254.1 := cert_of T254.2 Tryz.func254
-- suffrage/nat.Mul
noncomputable def T255 : { F : AFunc // CT.func [[4, 5], [10, 11, 12], [13], [0, 1, 6, 14, 15], [6, 14, 16, 17, 18, 19, 20, 21, 22], [1], [], [26, 27, 28, 29], [8, 9, 30, 31, 32, 33, 34, 35], [36], [0, 7, 23, 24, 25, 26, 37, 38, 39, 40]] Tryz.f255 = some F } := by
  refine ⟨?F, ?h⟩
  case h =>
    conv => lhs; cbv
theorem c255 : Cert 255 T255.1 := cert_of T255.2 Tryz.func255
-- suffrage/nat.Add
noncomputable def T256 : { F : AFunc // CT.func [[4, 5], [10, 11, 12], [13], [0, 1, 6, 14, 15], [6, 14, 16, 17, 18, 19, 20, 21, 22], [], [23], [], [26, 27], [9, 28, 29, 30, 31, 32, 33, 34, 35, 36, 37, 38, 39, 40, 41], [42], [0, 1, 7, 8, 24, 25, 26, 43, 44, 45, 46]] Tryz.f256 = some F } := by
  refine ⟨?F, ?h⟩
  case h =>
    conv => lhs; cbv
theorem c256 : Cert 256 T256.1 := cert_of T256.2 Tryz.func256
-- suffrage/nat.Sub
noncomputable def T257 : { F : AFunc // CT.func [[4, 5], [7, 8, 9], [10], [0, 1, 6, 11, 12], [6, 11, 13, 14, 15], [0, 1, 16], [0, 1, 16, 17, 18, 19]] Tryz.f257 = some F } := by
  refine ⟨?F, ?h⟩
  case h =>
    conv => lhs; cbv
theorem c257 : Cert 257 T257.1 := cert_of T257.2 Tryz.func257
-- suffrage/nat.Check
noncomputable def T258 : { F : AFunc // CT.func [[2], [4, 5], [7, 8], [0, 3, 6], [0, 3, 6, 10, 11, 12, 13, 14, 15, 16, 17, 18, 19], [9], [9]] Tryz.f258 = some F } := by
  refine ⟨?F, ?h⟩
  case h =>
    conv => lhs; cbv
theorem c258 : Cert 258 T258.1 := cert_of T258.2 Tryz.func258
-- suffrage/nat.order
noncomputable def T259 : { F : AFunc // CT.func [[4], [6, 7, 8, 9], [0, 1, 10, 11, 12, 13, 14, 15, 16, 17], [10, 18, 19, 20], [21], [23, 24, 35], [22, 26, 27, 28, 29, 30, 31, 32, 33, 34], [0, 1, 5, 25], [25, 36, 37, 38, 39, 40, 41, 42, 43, 44], [0, 1, 5, 35], [0, 1, 5, 22]] Tryz.f259 = some F } := by
  refine ⟨?F, ?h⟩
  case h =>
    conv => lhs; cbv
theorem c259 : Cert 259 T259.1 := cert_of T259.2 Tryz.func259
-- math/bits.Mul32
noncomputable def T260 : { F : AFunc // CT.func [[4, 5], [0, 1, 7, 8, 9, 10, 11], [6, 12, 13, 14, 15, 16]] Tryz.f260 = some F } := by
  refine ⟨?F, ?h⟩
  case h =>
    conv => lhs; cbv
theorem c260 : Cert 260 T260.1 := cert_of T260.2 Tryz.func260
-- math/bits.Mul64
noncomputable def T261 : { F : AFunc // CT.func [[4, 5], [14, 15], [16, 17], [18, 19], [20, 21], [22, 23, 24], [8, 10, 25, 26, 27, 28, 29, 30], [31, 32], [11, 33, 34], [6, 35, 36, 37, 38, 39], [7, 9, 12, 13, 40, 41, 42, 43, 44, 45, 46, 47], [0, 1, 48, 49, 50]] Tryz.f261 = some F } := by
  refine ⟨?F, ?h⟩
  case h =>
    conv => lhs; cbv
theorem c261 : Cert 261 T261.1 := cert_of T261.2 Tryz.func261
-- suffrage/nat.small
noncomputable def T262 : { F : AFunc // CT.func [[4], [7, 8, 9], [10, 11, 12], [13], [15, 16], [14, 17, 18, 19, 20, 21, 22, 23, 24, 25, 26, 27, 28, 29], [0, 1, 6, 14, 30, 31, 32]] Tryz.f262 = some F } := by
  refine ⟨?F, ?h⟩
  case h =>
    conv => lhs; cbv
theorem c262 : Cert 262 T262.1 := cert_of T262.2 Tryz.func262
-- suffrage/nat.long
noncomputable def T263 : { F : AFunc // CT.func [[4, 5], [14, 15, 16, 17, 18, 19, 20], [0, 1, 21, 22, 23, 24, 25, 26, 27], [28, 29], [30, 31, 32, 33, 34], [35, 36, 37], [38], [40, 41], [39, 42, 43, 44, 45, 46, 47, 48, 49, 50, 51, 52], [53, 54, 55], [56, 57, 58], [59, 60, 61], [11, 62, 63, 64], [11, 12, 59, 65, 66, 67, 68, 69], [8, 9, 10, 39, 70, 71], [72], [], [75, 76], [13, 77, 78, 79, 80, 81, 82, 83, 84, 85, 86, 87, 88, 89, 90, 91, 92, 93, 94, 95], [96], [6, 7, 73, 74, 75, 97, 98, 99, 100]] Tryz.f263 = some F } := by
  refine ⟨?F, ?h⟩
  case h =>
    conv => lhs; cbv
theorem c263 : Cert 263 T263.1 := cert_of T263.2 Tryz.func263
-- slices.insertionSortCmpFunc[suffrage/api.Link]
noncomputable def T264 : { F : AFunc // CT.func [[10, 11], [12, 13], [9, 15, 16, 34], [14, 17], [18, 19, 20, 21, 22, 23, 24, 25, 26, 27, 28, 29, 30, 31, 32, 33], [35, 36], [34, 37, 38, 39, 40, 41, 42, 43, 44, 45, 46, 47, 48, 49, 50, 51, 52]] Tryz.f264 = some F } := by
  refine ⟨?F, ?h⟩
  case h =>
    conv => lhs; cbv
theorem c264 : Cert 264 T264.1 := cert_of T264.2 Tryz.func264
-- slices.symMergeCmpFunc[suffrage/api.Link]
noncomputable def T265 : { F : AFunc // CT.func [[25, 26, 27], [2, 28, 29], [3, 30], [31, 32], [33, 34, 35, 36, 37, 38, 39], [40, 41, 42, 43, 44, 45, 46, 47, 48, 49], [12, 50, 51, 52], [12, 50, 53], [1, 4, 11, 33, 54], [55, 56, 57], [59, 60], [58, 61, 62, 63, 64, 65, 66, 67, 68, 69, 70, 71, 72, 73, 74, 75, 76], [28, 77, 78, 79], [1, 3, 80, 81], [82], [83, 84], [85, 86, 87, 88, 89, 90, 91], [92, 93, 94, 95, 96, 97, 98, 99, 100, 101, 102], [16, 103, 104, 105], [16, 103, 106], [2, 4, 15, 85, 107], [108, 109], [111, 112], [110, 113, 114, 115, 116, 117, 118, 119, 120, 121, 122, 123, 124, 125, 126, 127, 128], [80, 129, 130, 131, 132, 133, 134], [135, 136, 137], [20, 21], [138, 139], [140, 141, 142, 143], [144], [140, 145], [146], [147, 148], [149, 150], [151, 152, 153, 154, 155, 156, 157], [158, 159, 160, 161, 162, 163, 164, 165, 166, 167, 168, 169, 170], [23, 171, 172, 173], [23, 171, 174], [19, 21, 22, 151, 175, 176, 177], [178, 179, 180, 181, 182, 183, 184], [2, 185, 186, 187, 188, 189, 190, 191], [2, 185, 192, 193, 194, 195, 196, 197, 198], [1, 20, 199, 200, 201, 202, 203, 204, 205], [1, 20, 199, 206, 207, 208, 209, 210, 211, 212], [0, 3, 4, 18, 24, 213, 214, 215, 216, 217, 218, 219]] Tryz.f265 = some F } := FN _ Tryz.f265 220 5 [] (PC.seq ⟨_, by conv => lhs; cbv⟩ (PC.seq ⟨_, by conv => lhs; cbv⟩ (PC.seq ⟨_, by conv => lhs; cbv⟩ (PC.seq ⟨_, by conv => lhs; cbv⟩ (PC.seq ⟨_, by conv => lhs; cbv⟩ (PC.seq ⟨_, by conv => lhs; cbv⟩ ⟨_, by conv => lhs; cbv⟩))))))
theorem c265 : Cert 265 T265.1 := cert_of T265.2 Tryz.func265
-- math/bits.Div64
noncomputable def T266 : { F : AFunc // CT.func [[6, 7], [19], [20, 21], [20, 22, 23], [24, 25], [24, 26], [0, 1, 2, 27, 28, 29, 30, 31, 32, 33], [27, 34, 35, 36], [37, 38, 39], [40, 41], [42, 43], [0, 44, 45, 46, 47, 48, 49, 50, 51], [1, 52, 53, 54], [55, 56], [12, 57, 58], [59, 60, 61], [62, 63, 64, 65, 66], [67, 68, 69, 70, 71, 72, 73, 74, 75, 76, 77, 85], [78, 79, 80], [81, 82, 83], [84], [11, 13, 16, 78, 85, 86, 87, 88, 89, 90, 91, 92, 93], [94, 95, 96], [97, 98, 99, 100, 101], [102, 103, 104, 105, 106, 107, 108, 109, 110, 111, 112, 120], [113, 114, 115], [116, 117, 118], [119], [2, 8, 9, 10, 14, 15, 16, 17, 18, 113, 120, 121, 122, 123, 124, 125, 126, 127, 128, 129, 130, 131, 132, 133, 134]] Tryz.f266 = some F } := FN _ Tryz.f266 135 3 [.t 6, .t 7] (PC.seq ⟨_, by conv => lhs; cbv⟩ (PC.seq ⟨_, by conv => lhs; cbv⟩ (PC.seq ⟨_, by conv => lhs; cbv⟩ (PC.seq ⟨_, by conv => lhs; cbv⟩ (PC.seq ⟨_, by conv => lhs; cbv⟩ (PC.seq ⟨_, by conv => lhs; cbv⟩ (PC.seq ⟨_, by conv => lhs; cbv⟩ (PC.seq ⟨_, by conv => lhs; cbv⟩ (PC.seq ⟨_, by conv => lhs; cbv⟩ (PC.seq ⟨_, by conv => lhs; cbv⟩ (PC.seq ⟨_, by conv => lhs; cbv⟩ (PC.seq ⟨_, by conv => lhs; cbv⟩ (PC.seq ⟨_, by conv => lhs; cbv⟩ (PC.seq ⟨_, by conv => lhs; cbv⟩ ⟨_, by conv => lhs; cbv⟩))))))))))))))
theorem c266 : Cert 266 T266.1 := cert_of T266.2 Tryz.func266
-- suffrage/nat.times
noncomputable def T267 : { F : AFunc // CT.func [[], [], [], [12, 13, 14, 15], [8, 16, 17, 18, 19, 20, 21, 22, 23, 24, 25, 26, 27, 28], [7, 29, 30, 31, 32, 33], [34, 35], [36], [0, 1, 2, 6, 9, 10, 11, 12, 37, 38, 39, 40, 41, 42, 43, 44, 45]] Tryz.f267 = some F } := by
  refine ⟨?F, ?h⟩
  case h =>
    conv => lhs; cbv
theorem c267 : Cert 267 T267.1 := cert_of T267.2 Tryz.func267
-- suffrage/nat.fits
noncomputable def T268 : { F : AFunc // CT.func [[2, 3], [4, 5], [6, 7], [0, 8], [0, 8, 9]] Tryz.f268 = some F } := by
  refine ⟨?F, ?h⟩
  case h =>
    conv => lhs; cbv
theorem c268 : Cert 268 T268.1 := cert_of T268.2 Tryz.func268
-- math/bits.Add32
noncomputable def T269 : { F : AFunc // CT.func [[6, 7], [0, 1, 2, 9, 10, 11, 12, 13, 14, 15, 16], [17, 18], [8, 19, 20, 21]] Tryz.f269 = some F } := by
  refine ⟨?F, ?h⟩
  case h =>
    conv => lhs; cbv
theorem c269 : Cert 269 T269.1 := cert_of T269.2 Tryz.func269
-- suffrage/nat.limb
noncomputable def T270 : { F : AFunc // CT.func [[4], [5, 6, 7], [0, 1, 8], [0, 1, 8, 9, 10, 11, 12]] Tryz.f270 = some F } := by
  refine ⟨?F, ?h⟩
  case h =>
    conv => lhs; cbv
theorem c270 : Cert 270 T270.1 := cert_of T270.2 Tryz.func270
-- suffrage/nat.less
noncomputable def T271 : { F : AFunc // CT.func [[4], [8, 9, 10], [], [11], [], [14, 15], [7, 16, 17, 18, 19, 20, 21, 22, 23, 24, 25, 26, 27, 28, 29, 30], [31], [0, 1, 5, 6, 12, 13, 14, 32, 33]] Tryz.f271 = some F } := by
  refine ⟨?F, ?h⟩
  case h =>
    conv => lhs; cbv
theorem c271 : Cert 271 T271.1 := cert_of T271.2 Tryz.func271
-- math/bits.Div32
noncomputable def T272 : { F : AFunc // CT.func [[6, 7], [9, 10, 11, 12, 13, 14], [15, 16], [0, 1, 15, 17, 18, 19, 20, 21, 22], [2, 8, 23, 24, 25, 26, 27, 28, 29, 30, 31, 32]] Tryz.f272 = some F } := by
  refine ⟨?F, ?h⟩
  case h =>
    conv => lhs; cbv
theorem c272 : Cert 272 T272.1 := cert_of T272.2 Tryz.func272
-- math/bits.LeadingZeros32
noncomputable def T273 : { F : AFunc // CT.func [[2], [0, 3, 4, 5]] Tryz.f273 = some F } := by
  refine ⟨?F, ?h⟩
  case h =>
    conv => lhs; cbv
theorem c273 : Cert 273 T273.1 := cert_of T273.2 Tryz.func273
-- suffrage/nat.shifted
noncomputable def T274 : { F : AFunc // CT.func [[4], [7, 8, 9, 10], [11, 12, 13], [0, 14, 15], [16], [18, 19, 28], [17, 20, 21, 22, 23, 24, 25, 26], [27], [28, 29, 30, 31, 32, 33, 34, 35, 36, 37, 38, 39, 40, 41, 42, 43, 44], [1, 5, 6, 17, 45]] Tryz.f274 = some F } := by
  refine ⟨?F, ?h⟩
  case h =>
    conv => lhs; cbv
theorem c274 : Cert 274 T274.1 := cert_of T274.2 Tryz.func274
-- suffrage/nat.guess
noncomputable def T275 : { F : AFunc // CT.func [[4], [9, 10], [11, 12, 13, 14, 15, 16, 17, 18, 19, 20, 21, 22, 23], [6, 24, 25, 26, 27, 28, 29, 30, 31, 32, 33, 34, 35, 36, 37, 38, 39], [40, 41, 42, 43, 44, 45, 46, 47, 48, 49, 50, 51, 52, 53, 54, 55, 56, 57, 58, 59, 60, 61, 75], [62, 63, 64], [65, 66, 67, 68, 69, 70, 71, 72], [73, 74], [0, 1, 5, 7, 8, 62, 75, 76]] Tryz.f275 = some F } := by
  refine ⟨?F, ?h⟩
  case h =>
    conv => lhs; cbv
theorem c275 : Cert 275 T275.1 := cert_of T275.2 Tryz.func275
-- suffrage/nat.takes
noncomputable def T276 : { F : AFunc // CT.func [[6], [], [], [], [14, 15, 16, 17], [10, 18, 19, 20, 21, 22, 23], [9, 24, 25, 26, 27, 28, 29, 30, 31, 32, 33, 34, 35, 36, 37], [38, 39], [40], [0, 1, 2, 7, 11, 12, 13, 14, 41, 42, 43, 44, 45, 46, 47, 48, 49, 50, 51, 52, 53, 54, 55, 56], [8, 57, 58]] Tryz.f276 = some F } := by
  refine ⟨?F, ?h⟩
  case h =>
    conv => lhs; cbv
theorem c276 : Cert 276 T276.1 := cert_of T276.2 Tryz.func276
-- suffrage/nat.back
noncomputable def T277 : { F : AFunc // CT.func [[], [], [], [10, 11, 12, 13], [5, 6, 14, 15, 16, 17, 18, 19, 20, 21, 22, 23, 24, 25, 26], [27], [0, 1, 4, 7, 8, 9, 10, 28, 29, 30, 31, 32, 33, 34, 35]] Tryz.f277 = some F } := by
  refine ⟨?F, ?h⟩
  case h =>
    conv => lhs; cbv
theorem c277 : Cert 277 T277.1 := cert_of T277.2 Tryz.func277
-- slices.rotateCmpFunc[suffrage/api.Link]
noncomputable def T278 : { F : AFunc // CT.func [[1, 12, 13, 14], [3, 15, 16, 17], [18, 19], [20, 21, 22], [23, 24, 25, 26, 27, 28, 29, 30, 31], [32, 33, 34], [23, 35, 36, 37, 38, 39, 40, 41, 42, 43, 44, 45, 46], [47, 48, 49], [0, 2, 4, 10, 11, 20, 50, 51, 52, 53, 54, 55, 56, 57]] Tryz.f278 = some F } := by
  refine ⟨?F, ?h⟩
  case h =>
    conv => lhs; cbv
theorem c278 : Cert 278 T278.1 := cert_of T278.2 Tryz.func278
-- math/bits.LeadingZeros64
noncomputable def T279 : { F : AFunc // CT.func [[2], [0, 3, 4, 5]] Tryz.f279 = some F } := by
  refine ⟨?F, ?h⟩
  case h =>
    conv => lhs; cbv
theorem c279 : Cert 279 T279.1 := cert_of T279.2 Tryz.func279
-- math/bits.Sub32
noncomputable def T280 : { F : AFunc // CT.func [[6, 7], [2, 8, 9, 10, 11, 12], [0, 1, 13, 14, 15, 16, 17, 18, 19, 20, 21, 22, 23, 24]] Tryz.f280 = some F } := by
  refine ⟨?F, ?h⟩
  case h =>
    conv => lhs; cbv
theorem c280 : Cert 280 T280.1 := cert_of T280.2 Tryz.func280
-- slices.swapRangeCmpFunc[suffrage/api.Link]
noncomputable def T281 : { F : AFunc // CT.func [[4], [11, 12], [14, 15], [13, 16, 17, 18, 19, 20, 21, 22, 23, 24, 25, 26, 27, 28, 29, 30, 31, 32, 33, 34, 35, 36, 37]] Tryz.f281 = some F } := by
  refine ⟨?F, ?h⟩
  case h =>
    conv => lhs; cbv
theorem c281 : Cert 281 T281.1 := cert_of T281.2 Tryz.func281
-- (suffrage/coombs.most).elects
noncomputable def T298 : { F : AFunc // CT.func [[0, 1, 3, 6, 7], [], [], [], [15, 16, 17], [10, 18, 19, 20], [21], [12, 13, 14, 15, 22, 23, 24, 25, 26], [2, 4, 8, 11, 27, 28, 29, 30, 31, 32, 33, 34, 35, 36, 37, 38, 39]] Tryz.f298 = some F } := by
  refine ⟨?F, ?h⟩
  case h =>
    conv => lhs; cbv
theorem c298 : Cert 298 T298.1 := cert_of T298.2 Tryz.func298
-- (suffrage/coombs.most).out
noncomputable def T299 : { F : AFunc // CT.func [[0, 4], [2, 6, 7, 8, 9], [1, 5, 10, 11, 12]] Tryz.f299 = some F } := by
  refine ⟨?F, ?h⟩
  case h =>
    conv => lhs; cbv
theorem c299 : Cert 299 T299.1 := cert_of T299.2 Tryz.func299
-- (suffrage/coombs.most).elects$1
noncomputable def T300 : { F : AFunc // CT.func [[3], [0, 1, 4, 5, 6, 7]] Tryz.f300 = some F } := by
  refine ⟨?F, ?h⟩
  case h =>
    conv => lhs; cbv
theorem c300 : Cert 300 T300.1 := cert_of T300.2 Tryz.func300
-- suffrage/coombs.against
noncomputable def T301 : { F : AFunc // CT.func [[0, 4], [13, 14, 15], [2, 16], [], [20, 21, 22], [], [], [], [26, 27, 28], [29, 30, 31, 32], [33, 34, 35], [12, 36], [9, 11, 37, 38, 39, 40, 41, 42, 43, 44, 45], [], [11, 37, 46], [9, 23, 24, 25, 26, 47, 48, 49, 50, 51], [7, 8, 52, 53, 54, 55, 56, 57, 58, 59, 60, 61, 62, 63, 64], [7, 8, 52, 65], [1, 5, 17, 18, 19, 20, 66]] Tryz.f301 = some F } := by
  refine ⟨?F, ?h⟩
  case h =>
    conv => lhs; cbv
theorem c301 : Cert 301 T301.1 := cert_of T301.2 Tryz.func301
-- (suffrage/coombs.most).out$1
noncomputable def T302 : { F : AFunc // CT.func [[3], [0, 1, 4, 5, 6, 7]] Tryz.f302 = some F } := by
  refine ⟨?F, ?h⟩
  case h =>
    conv => lhs; cbv
theorem c302 : Cert 302 T302.1 := cert_of T302.2 Tryz.func302
-- (suffrage/gregory.hopeful).has
noncomputable def T303 : { F : AFunc // CT.func [[0, 2, 3, 6], [1, 7]] Tryz.f303 = some F } := by
  refine ⟨?F, ?h⟩
  case h =>
    conv => lhs; cbv
theorem c303 : Cert 303 T303.1 := cert_of T303.2 Tryz.func303
-- (suffrage/gregory.hopeful).in
noncomputable def T304 : { F : AFunc // CT.func [[0, 1, 2], []] Tryz.f304 = some F } := by
  refine ⟨?F, ?h⟩
  case h =>
    conv => lhs; cbv
theorem c304 : Cert 304 T304.1 := cert_of T304.2 Tryz.func304
-- (suffrage/gregory.done).has
noncomputable def T305 : { F : AFunc // CT.func [[0, 1, 6], [3, 7], [2, 8, 9], [2, 8]] Tryz.f305 = some F } := by
  refine ⟨?F, ?h⟩
  case h =>
    conv => lhs; cbv
theorem c305 : Cert 305 T305.1 := cert_of T305.2 Tryz.func305
-- (suffrage/gregory.done).in
noncomputable def T306 : { F : AFunc // CT.func [[0, 1, 2], []] Tryz.f306 = some F } := by
  refine ⟨?F, ?h⟩
  case h =>
    conv => lhs; cbv
theorem c306 : Cert 306 T306.1 := cert_of T306.2 Tryz.func306
end Go.Proofs.YtkpfhnicdlgjiaaGreat
