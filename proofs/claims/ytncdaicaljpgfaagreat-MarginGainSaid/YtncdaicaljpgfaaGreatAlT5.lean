/- The functions in the abstract language, worked out by Lean. -/
import Derived.Test.YtncdaicaljpgfaaGreatAlPc
set_option linter.unusedVariables false
set_option maxHeartbeats 1000000
set_option maxRecDepth 100000
namespace Go.Proofs.YtncdaicaljpgfaaGreat
-- (suffrage/ratio.pair).product
noncomputable def T281 : { F : AFunc // CT.func [[0, 3], [6, 7, 8, 9, 10, 11, 12, 13, 14, 15], [16], [1, 4, 17, 18, 19], [17, 20, 21, 22, 23, 24, 25, 26, 27, 28, 29], [30], [1, 4, 5, 31, 32, 33], [1, 4, 5, 31, 34, 35, 36, 37, 38, 39, 40, 41, 42, 43]] Tryz.f281 = some F } := by
  refine ⟨?F, ?h⟩
  case h =>
    conv => lhs; cbv
theorem c281 : Cert 281 T281.1 := cert_of T281.2 Tryz.func281
-- (suffrage/ratio.pair).sum
noncomputable def T282 : { F : AFunc // CT.func [[0, 3], [11, 12, 13, 14, 15, 16], [17], [1, 4, 5, 18, 19, 20], [18, 21, 22, 23, 24, 25, 26, 27, 28, 29, 30], [31], [1, 4, 5, 6, 32, 33, 34], [3, 8, 32, 35, 36, 37, 38, 39, 40], [10, 41, 42, 43, 44], [46, 47, 48, 49, 50, 51, 52], [7, 45, 54, 55], [1, 4, 5, 7, 45, 56, 57, 58, 59, 60, 61], [1, 53, 62, 63, 64, 65, 66], [1, 4, 5, 53, 67, 68, 69, 70, 71, 72], [73], [6, 9, 10, 74, 75, 76], [6, 9, 10, 74, 77, 78, 79, 80]] Tryz.f282 = some F } := by
  refine ⟨?F, ?h⟩
  case h =>
    conv => lhs; cbv
theorem c282 : Cert 282 T282.1 := cert_of T282.2 Tryz.func282
-- (suffrage/ratio.pair).quotient
noncomputable def T283 : { F : AFunc // CT.func [[0, 3], [4, 5, 6, 7], [1, 8, 9], [1, 8, 10, 11, 12, 13, 14, 15, 16, 17, 18, 19, 20, 21, 22, 23, 24, 25]] Tryz.f283 = some F } := by
  refine ⟨?F, ?h⟩
  case h =>
    conv => lhs; cbv
theorem c283 : Cert 283 T283.1 := cert_of T283.2 Tryz.func283
-- suffrage/ratio.side
noncomputable def T284 : { F : AFunc // CT.func [[0, 2], [4, 5, 6, 7], [1, 3], [1, 3, 9, 10], [8], [8]] Tryz.f284 = some F } := by
  refine ⟨?F, ?h⟩
  case h =>
    conv => lhs; cbv
theorem c284 : Cert 284 T284.1 := cert_of T284.2 Tryz.func284
-- (suffrage/ratio.pair).crossed
noncomputable def T285 : { F : AFunc // CT.func [[0, 2, 3, 4], [5, 6, 7, 8, 9, 10, 11, 12, 13, 14], [15], [1, 16, 17], [1, 16, 18, 19, 20, 21, 22, 23, 24, 25, 26, 27], [28, 29, 30]] Tryz.f285 = some F } := by
  refine ⟨?F, ?h⟩
  case h =>
    conv => lhs; cbv
theorem c285 : Cert 285 T285.1 := cert_of T285.2 Tryz.func285
-- suffrage/nat.Cmp
noncomputable def T286 : { F : AFunc // CT.func [[4, 5], [7, 8, 9], [10], [0, 1, 6, 11, 12], [0, 1, 6, 11, 13, 14, 15]] Tryz.f286 = some F } := by
  refine ⟨?F, ?h⟩
  case h =>
    conv => lhs; cbv
theorem c286 : Cert 286 T286.1 := cert_of T286.2 Tryz.func286
-- slices.pdqsortOrdered[int]
noncomputable def T287 : { F : AFunc // CT.func [[], [], [19, 20, 21], [22], [0, 1, 2, 3, 8, 9, 10, 23, 24, 25, 26, 27], [23, 28], [0, 1, 2, 3, 8, 9, 10, 29, 30, 31, 32, 33], [29, 34], [35, 36, 37, 38, 39], [40, 41], [35, 42, 43, 44, 45, 46, 47, 48], [49], [12, 50, 51, 52, 53, 54], [55, 56, 57, 58, 59, 60], [], [12, 50, 61, 62, 63, 64, 65, 66, 67], [68, 69, 70, 71], [68, 72, 73, 74, 75, 76, 77, 78, 79, 80, 81, 82, 83, 84, 85, 86], [1, 10, 11, 87, 88, 89, 90, 91, 92], [13, 93], [8, 9, 11, 87, 94, 95, 96, 97, 98, 99, 100, 101], [15, 102], [103, 104, 105, 106, 107, 108], [10, 109, 110], [111, 112], [16, 17, 18, 113, 114, 115, 116], [1, 117, 118, 119, 120, 121], [14, 122, 123], [16, 17, 18, 113, 124, 125, 126], [2, 127, 128, 129, 130, 131, 132], [14, 133]] Tryz.f287 = some F } := FN _ Tryz.f287 134 4 [] (PC.seq ⟨_, by conv => lhs; cbv⟩ (PC.seq ⟨_, by conv => lhs; cbv⟩ (PC.block 0 (PC.loop (PC.block 1 (PC.seq ⟨_, by conv => lhs; cbv⟩ (PC.seq ⟨_, by conv => lhs; cbv⟩ (PC.seq ⟨_, by conv => lhs; cbv⟩ (PC.seq ⟨_, by conv => lhs; cbv⟩ (PC.seq ⟨_, by conv => lhs; cbv⟩ (PC.seq ⟨_, by conv => lhs; cbv⟩ (PC.seq ⟨_, by conv => lhs; cbv⟩ (PC.seq ⟨_, by conv => lhs; cbv⟩ ⟨_, by conv => lhs; cbv⟩)))))))))))))
theorem c287 : Cert 287 T287.1 := cert_of T287.2 Tryz.func287
-- math/bits.Mul
noncomputable def T288 : { F : AFunc // CT.func [[4, 5], [0, 1, 10, 11, 12, 13, 14, 15, 16, 17], [6, 7, 18, 19, 20, 21], [0, 1, 22, 23, 24, 25, 26, 27], [8, 9, 28, 29]] Tryz.f288 = some F } := by
  refine ⟨?F, ?h⟩
  case h =>
    conv => lhs; cbv
theorem c288 : Cert 288 T288.1 := cert_of T288.2 Tryz.func288
-- slices.Equal[[]uint32,uint32]
noncomputable def T289 : { F : AFunc // CT.func [[4], [6, 7, 8, 9], [0, 1, 10], [10, 11], [], [14, 15], [5, 16, 17, 18, 19, 20, 21, 22, 23], [0, 1, 12, 13, 24], [24, 25], [0, 1, 12, 13, 14]] Tryz.f289 = some F } := by
  refine ⟨?F, ?h⟩
  case h =>
    conv => lhs; cbv
theorem c289 : Cert 289 T289.1 := cert_of T289.2 Tryz.func289
-- suffrage/nat.order
noncomputable def T290 : { F : AFunc // CT.func [[4], [6, 7, 8, 9], [0, 1, 10, 11, 12, 13, 14, 15, 16, 17], [10, 18, 19, 20], [21], [23, 24, 35], [22, 26, 27, 28, 29, 30, 31, 32, 33, 34], [0, 1, 5, 25], [25, 36, 37, 38, 39, 40, 41, 42, 43, 44], [0, 1, 5, 35], [0, 1, 5, 22]] Tryz.f290 = some F } := by
  refine ⟨?F, ?h⟩
  case h =>
    conv => lhs; cbv
theorem c290 : Cert 290 T290.1 := cert_of T290.2 Tryz.func290
-- suffrage/nat.small
noncomputable def T291 : { F : AFunc // CT.func [[4], [7, 8, 9], [10, 11, 12], [13], [15, 16], [14, 17, 18, 19, 20, 21, 22, 23, 24, 25, 26, 27, 28, 29], [0, 1, 6, 14, 30, 31, 32]] Tryz.f291 = some F } := by
  refine ⟨?F, ?h⟩
  case h =>
    conv => lhs; cbv
theorem c291 : Cert 291 T291.1 := cert_of T291.2 Tryz.func291
-- suffrage/nat.long
noncomputable def T292 : { F : AFunc // CT.func [[4, 5], [14, 15, 16, 17, 18, 19, 20], [0, 1, 21, 22, 23, 24, 25, 26, 27], [28, 29], [30, 31, 32, 33, 34], [35, 36, 37], [38], [40, 41], [39, 42, 43, 44, 45, 46, 47, 48, 49, 50, 51, 52], [53, 54, 55], [56, 57, 58], [59, 60, 61], [11, 62, 63, 64], [11, 12, 59, 65, 66, 67, 68, 69], [8, 9, 10, 39, 70, 71], [72], [], [75, 76], [13, 77, 78, 79, 80, 81, 82, 83, 84, 85, 86, 87, 88, 89, 90, 91, 92, 93, 94, 95], [96], [6, 7, 73, 74, 75, 97, 98, 99, 100]] Tryz.f292 = some F } := by
  refine ⟨?F, ?h⟩
  case h =>
    conv => lhs; cbv
theorem c292 : Cert 292 T292.1 := cert_of T292.2 Tryz.func292
-- slices.AppendSeq[[]int,int]
noncomputable def T293 : { F : AFunc // CT.func [[0, 4], [1], [6, 7], [2, 5, 8, 9, 10, 11], [2, 6, 12]] Tryz.f293 = some F } := by
  refine ⟨?F, ?h⟩
  case h =>
    conv => lhs; cbv
theorem c293 : Cert 293 T293.1 := cert_of T293.2 Tryz.func293
-- slices.stableCmpFunc[suffrage/api.Link]
noncomputable def T294 : { F : AFunc // CT.func [[], [10], [11, 12], [7, 13, 14, 15, 16, 17, 18], [19], [20, 21, 22], [7, 8, 13, 23, 24, 25, 26, 27], [28, 29], [30, 31, 32], [33, 34], [7, 35, 36, 37, 38, 39, 40, 41, 42, 43], [44], [45, 46, 47, 48], [8, 35, 49, 50, 51], [52, 53], [7, 9, 54, 55, 56, 57, 58, 59, 60], [7, 9, 54, 61, 62]] Tryz.f294 = some F } := by
  refine ⟨?F, ?h⟩
  case h =>
    conv => lhs; cbv
theorem c294 : Cert 294 T294.1 := cert_of T294.2 Tryz.func294
-- suffrage/quota.within
noncomputable def T295 : { F : AFunc // CT.func [[6], [0, 1, 2, 7, 8, 9, 10, 11, 12, 13, 14]] Tryz.f295 = some F } := by
  refine ⟨?F, ?h⟩
  case h =>
    conv => lhs; cbv
theorem c295 : Cert 295 T295.1 := cert_of T295.2 Tryz.func295
-- (*suffrage/gregory.count).next$1
def R_gregory_count_next_1_1 : AC := .ops false [⟨some 4, .load 1 true (.t 1), none, []⟩,
  ⟨some 5, .nilchk (.t 4), none, []⟩,
  ⟨some 6, .fa (.t 5) 2, none, []⟩,
  ⟨some 7, .load 1 true (.t 6), none, []⟩,
  ⟨some 8, .mov (.t 0), none, []⟩,
  ⟨some 9, .ia 1 (.t 7) (.t 8), none, []⟩,
  ⟨some 10, .load 1 true (.t 9), none, []⟩,
  ⟨some 11, .call (.meth (.t 10) [(202, 224), (210, 355), (263, 357)]) [], none, []⟩,
  ⟨some 3, .mov (.t 11), none, []⟩] [0, 1, 4, 5, 6, 7, 8, 9, 10, 11]
noncomputable def T296 : { F : AFunc // CT.func [[3], [0, 1, 4, 5, 6, 7, 8, 9, 10, 11]] Tryz.f296 = some F } := FN _ Tryz.f296 12 2 [.t 3] (PC.seq ⟨_, by conv => lhs; cbv⟩ (PC.seq ⟨R_gregory_count_next_1_1, by kernel_rfl⟩ ⟨_, by conv => lhs; cbv⟩))
theorem c296 : Cert 296 T296.1 := cert_of T296.2 Tryz.func296
-- suffrage/quota.product
noncomputable def T297 : { F : AFunc // CT.func [[6, 7, 8], [], [0, 1, 12, 13, 14, 15, 16, 17, 18, 19, 20, 21], [22, 23, 24, 25], [2, 9, 26], [2, 9, 26, 27, 28, 29, 30, 31, 32, 33, 34, 35, 36], [10, 11, 37, 38, 39, 40, 41, 42, 43]] Tryz.f297 = some F } := by
  refine ⟨?F, ?h⟩
  case h =>
    conv => lhs; cbv
theorem c297 : Cert 297 T297.1 := cert_of T297.2 Tryz.func297
-- suffrage/nat.Mul
noncomputable def T298 : { F : AFunc // CT.func [[4, 5], [10, 11, 12], [13], [0, 1, 6, 14, 15], [6, 14, 16, 17, 18, 19, 20, 21, 22], [1], [], [26, 27, 28, 29], [8, 9, 30, 31, 32, 33, 34, 35], [36], [0, 7, 23, 24, 25, 26, 37, 38, 39, 40]] Tryz.f298 = some F } := by
  refine ⟨?F, ?h⟩
  case h =>
    conv => lhs; cbv
theorem c298 : Cert 298 T298.1 := cert_of T298.2 Tryz.func298
-- suffrage/nat.Add
noncomputable def T299 : { F : AFunc // CT.func [[4, 5], [10, 11, 12], [13], [0, 1, 6, 14, 15], [6, 14, 16, 17, 18, 19, 20, 21, 22], [], [23], [], [26, 27], [9, 28, 29, 30, 31, 32, 33, 34, 35, 36, 37, 38, 39, 40, 41], [42], [0, 1, 7, 8, 24, 25, 26, 43, 44, 45, 46]] Tryz.f299 = some F } := by
  refine ⟨?F, ?h⟩
  case h =>
    conv => lhs; cbv
theorem c299 : Cert 299 T299.1 := cert_of T299.2 Tryz.func299
-- suffrage/nat.Sub
noncomputable def T300 : { F : AFunc // CT.func [[4, 5], [7, 8, 9], [10], [0, 1, 6, 11, 12], [6, 11, 13, 14, 15], [0, 1, 16], [0, 1, 16, 17, 18, 19]] Tryz.f300 = some F } := by
  refine ⟨?F, ?h⟩
  case h =>
    conv => lhs; cbv
theorem c300 : Cert 300 T300.1 := cert_of T300.2 Tryz.func300
-- slices.insertionSortOrdered[int]
noncomputable def T301 : { F : AFunc // CT.func [[8, 9], [10, 11], [7, 13, 14, 30], [12, 15], [16, 17, 18, 19, 20, 21, 22, 23, 24, 25, 26, 27, 28, 29], [31, 32], [30, 33, 34, 35, 36, 37, 38, 39, 40, 41, 42, 43, 44, 45, 46, 47, 48]] Tryz.f301 = some F } := by
  refine ⟨?F, ?h⟩
  case h =>
    conv => lhs; cbv
theorem c301 : Cert 301 T301.1 := cert_of T301.2 Tryz.func301
-- slices.heapSortOrdered[int]
noncomputable def T302 : { F : AFunc // CT.func [[11], [], [1, 2, 12, 13, 14], [15, 16, 17], [18], [20, 21], [19, 22, 23, 24, 25, 26], [8, 9, 19, 27, 28], [29], [31, 32], [30, 33, 34, 35, 36, 37, 38, 39, 40, 41, 42, 43, 44, 45, 46, 47, 48, 49, 50], [51, 52, 53, 54, 55]] Tryz.f302 = some F } := by
  refine ⟨?F, ?h⟩
  case h =>
    conv => lhs; cbv
theorem c302 : Cert 302 T302.1 := cert_of T302.2 Tryz.func302
-- slices.breakPatternsOrdered[int]
noncomputable def T303 : { F : AFunc // CT.func [[2, 11, 12, 13], [14], [15, 16, 17], [18, 19], [20, 21, 22, 23, 24, 25], [26, 27, 28, 29, 30, 31, 32], [34, 35], [33, 36, 37, 38, 39, 40], [41, 42], [43, 44, 45, 46], [10, 43, 47, 48, 49, 50, 51, 52, 53, 54, 55, 56, 57, 58, 59, 60, 61, 62, 63, 64]] Tryz.f303 = some F } := by
  refine ⟨?F, ?h⟩
  case h =>
    conv => lhs; cbv
theorem c303 : Cert 303 T303.1 := cert_of T303.2 Tryz.func303
-- slices.choosePivotOrdered[int]
noncomputable def T304 : { F : AFunc // CT.func [[6, 7], [2, 13, 14, 15], [], [16, 17, 18, 19, 20], [21, 22, 23, 24, 25], [1, 26, 27, 28, 29, 30], [31], [8, 32, 33], [34, 35, 36, 37], [38, 39, 40], [41, 42, 43], [0, 10, 12, 34, 44, 45, 46, 47, 48], [0, 8, 9, 10, 12, 32], [11, 50, 54], [52], [11, 49, 51, 53], [49, 51, 55], [11, 54, 56]] Tryz.f304 = some F } := by
  refine ⟨?F, ?h⟩
  case h =>
    conv => lhs; cbv
theorem c304 : Cert 304 T304.1 := cert_of T304.2 Tryz.func304
-- slices.reverseRangeOrdered[int]
noncomputable def T305 : { F : AFunc // CT.func [[1, 8], [2, 9, 10], [11, 12], [13, 14, 15, 16, 17, 18, 19, 20, 21, 22, 23, 24, 25, 26, 27], [28, 29], [30, 31]] Tryz.f305 = some F } := by
  refine ⟨?F, ?h⟩
  case h =>
    conv => lhs; cbv
theorem c305 : Cert 305 T305.1 := cert_of T305.2 Tryz.func305
-- slices.partialInsertionSortOrdered[int]
noncomputable def T306 : { F : AFunc // CT.func [[6], [11, 12], [], [13], [10, 15, 16, 98, 103, 116], [14, 17, 18, 19, 20, 21, 22, 23, 24, 25, 26, 27, 28, 29, 30, 31], [32, 33, 34], [32, 35, 36], [0, 1, 2, 7, 8, 37], [37, 38, 39, 40], [0, 1, 2, 7, 8, 41], [41, 42, 43, 44, 45, 46, 47, 48, 49, 50, 51, 52, 53, 54, 55, 56, 57], [58, 59, 60], [61, 62, 63], [64], [66, 67], [65, 68, 69, 70, 71, 72, 73, 74, 75, 76, 77], [78, 79, 80, 81, 82, 83, 84, 85, 86, 87, 88, 89, 90, 91, 92, 93, 94], [9, 61, 65, 78, 95, 96, 97], [98, 99, 100], [101, 102], [104, 105], [103, 106, 107, 108, 109, 110, 111, 112, 113, 114, 115], [116, 117, 118, 119, 120, 121, 122, 123, 124, 125, 126, 127, 128, 129, 130, 131, 132], [0, 1, 2, 7, 8, 14]] Tryz.f306 = some F } := FN _ Tryz.f306 133 3 [.t 6] (PC.seq ⟨_, by conv => lhs; cbv⟩ (PC.seq ⟨_, by conv => lhs; cbv⟩ (PC.seq (PC.seq ⟨_, by conv => lhs; cbv⟩ (PC.block 0 (PC.loop (PC.seq ⟨_, by conv => lhs; cbv⟩ (PC.seq (PC.block 1 (PC.seq ⟨_, by conv => lhs; cbv⟩ (PC.seq ⟨_, by conv => lhs; cbv⟩ (PC.seq ⟨_, by conv => lhs; cbv⟩ (PC.seq ⟨_, by conv => lhs; cbv⟩ (PC.seq ⟨_, by conv => lhs; cbv⟩ ⟨_, by conv => lhs; cbv⟩)))))) ⟨_, by conv => lhs; cbv⟩))))) ⟨_, by conv => lhs; cbv⟩)))
theorem c306 : Cert 306 T306.1 := cert_of T306.2 Tryz.func306
-- slices.partitionEqualOrdered[int]
noncomputable def T307 : { F : AFunc // CT.func [[8], [3, 11, 12, 13, 14, 15, 16, 17, 18, 19, 20, 21, 22, 23, 24], [2, 25, 26, 27, 28], [29, 30, 31, 32, 33, 34, 35, 36, 37, 38, 39, 40, 41, 42], [43, 44, 45], [43, 46, 47, 48, 49, 50, 51, 52, 53, 54, 55, 56, 57, 58], [59, 60, 61], [59, 62, 63], [64, 65, 66, 67, 68, 69, 70, 71, 72, 73, 74, 75, 76, 77, 78], [79, 80], [81, 82], [0, 1, 9, 10, 64, 83]] Tryz.f307 = some F } := by
  refine ⟨?F, ?h⟩
  case h =>
    conv => lhs; cbv
theorem c307 : Cert 307 T307.1 := cert_of T307.2 Tryz.func307
-- slices.partitionOrdered[int]
noncomputable def T308 : { F : AFunc // CT.func [[8, 9], [3, 12, 13, 14, 15, 16, 17, 18, 19, 20, 21, 22, 23, 24, 25], [2, 26, 27, 28, 29], [30, 31, 32, 33, 34, 35, 36, 37, 38, 39, 40, 41, 42], [43, 44, 45], [43, 46, 47, 48, 49, 50, 51, 52, 53, 54, 55, 56, 57, 58, 59], [60, 61, 62], [60, 63, 64], [0, 1, 10, 65, 66, 67, 68, 69, 70, 71, 72, 73, 74, 75, 76, 77, 78, 79], [11, 80], [65, 81, 82, 83, 84, 85, 86, 87, 88, 89, 90, 91, 92, 93, 94], [95, 96], [97, 98], [99, 100, 101, 102, 103, 104, 105, 106, 107, 108, 109, 110, 111], [112, 113, 114], [112, 115, 116, 117, 118, 119, 120, 121, 122, 123, 124, 125, 126, 127, 128], [129, 130, 131], [129, 132, 133], [134, 135, 136, 137, 138, 139, 140, 141, 142, 143, 144, 145, 146, 147, 148], [149, 150], [151, 152], [0, 1, 10, 134, 153, 154, 155, 156, 157, 158, 159, 160, 161, 162, 163, 164, 165, 166], [11, 167]] Tryz.f308 = some F } := FN _ Tryz.f308 168 4 [.t 8, .t 9] (PC.seq ⟨_, by conv => lhs; cbv⟩ (PC.seq ⟨_, by conv => lhs; cbv⟩ (PC.seq ⟨_, by conv => lhs; cbv⟩ (PC.seq ⟨_, by conv => lhs; cbv⟩ (PC.seq ⟨_, by conv => lhs; cbv⟩ (PC.seq ⟨_, by conv => lhs; cbv⟩ (PC.seq ⟨_, by conv => lhs; cbv⟩ (PC.seq ⟨_, by conv => lhs; cbv⟩ (PC.seq ⟨_, by conv => lhs; cbv⟩ (PC.seq (PC.block 4 (PC.loop (PC.block 5 (PC.seq ⟨_, by conv => lhs; cbv⟩ ⟨_, by conv => lhs; cbv⟩)))) ⟨_, by conv => lhs; cbv⟩))))))))))
theorem c308 : Cert 308 T308.1 := cert_of T308.2 Tryz.func308
-- math/bits.Mul32
noncomputable def T309 : { F : AFunc // CT.func [[4, 5], [0, 1, 7, 8, 9, 10, 11], [6, 12, 13, 14, 15, 16]] Tryz.f309 = some F } := by
  refine ⟨?F, ?h⟩
  case h =>
    conv => lhs; cbv
theorem c309 : Cert 309 T309.1 := cert_of T309.2 Tryz.func309
-- math/bits.Mul64
noncomputable def T310 : { F : AFunc // CT.func [[4, 5], [14, 15], [16, 17], [18, 19], [20, 21], [22, 23, 24], [8, 10, 25, 26, 27, 28, 29, 30], [31, 32], [11, 33, 34], [6, 35, 36, 37, 38, 39], [7, 9, 12, 13, 40, 41, 42, 43, 44, 45, 46, 47], [0, 1, 48, 49, 50]] Tryz.f310 = some F } := by
  refine ⟨?F, ?h⟩
  case h =>
    conv => lhs; cbv
theorem c310 : Cert 310 T310.1 := cert_of T310.2 Tryz.func310
-- math/bits.Div32
noncomputable def T311 : { F : AFunc // CT.func [[6, 7], [9, 10, 11, 12, 13, 14], [15, 16], [0, 1, 15, 17, 18, 19, 20, 21, 22], [2, 8, 23, 24, 25, 26, 27, 28, 29, 30, 31, 32]] Tryz.f311 = some F } := by
  refine ⟨?F, ?h⟩
  case h =>
    conv => lhs; cbv
theorem c311 : Cert 311 T311.1 := cert_of T311.2 Tryz.func311
-- math/bits.LeadingZeros32
noncomputable def T312 : { F : AFunc // CT.func [[2], [0, 3, 4, 5]] Tryz.f312 = some F } := by
  refine ⟨?F, ?h⟩
  case h =>
    conv => lhs; cbv
theorem c312 : Cert 312 T312.1 := cert_of T312.2 Tryz.func312
-- suffrage/nat.shifted
noncomputable def T313 : { F : AFunc // CT.func [[4], [7, 8, 9, 10], [11, 12, 13], [0, 14, 15], [16], [18, 19, 28], [17, 20, 21, 22, 23, 24, 25, 26], [27], [28, 29, 30, 31, 32, 33, 34, 35, 36, 37, 38, 39, 40, 41, 42, 43, 44], [1, 5, 6, 17, 45]] Tryz.f313 = some F } := by
  refine ⟨?F, ?h⟩
  case h =>
    conv => lhs; cbv
theorem c313 : Cert 313 T313.1 := cert_of T313.2 Tryz.func313
-- suffrage/nat.guess
noncomputable def T314 : { F : AFunc // CT.func [[4], [9, 10], [11, 12, 13, 14, 15, 16, 17, 18, 19, 20, 21, 22, 23], [6, 24, 25, 26, 27, 28, 29, 30, 31, 32, 33, 34, 35, 36, 37, 38, 39], [40, 41, 42, 43, 44, 45, 46, 47, 48, 49, 50, 51, 52, 53, 54, 55, 56, 57, 58, 59, 60, 61, 75], [62, 63, 64], [65, 66, 67, 68, 69, 70, 71, 72], [73, 74], [0, 1, 5, 7, 8, 62, 75, 76]] Tryz.f314 = some F } := by
  refine ⟨?F, ?h⟩
  case h =>
    conv => lhs; cbv
theorem c314 : Cert 314 T314.1 := cert_of T314.2 Tryz.func314
-- suffrage/nat.takes
noncomputable def T315 : { F : AFunc // CT.func [[6], [], [], [], [14, 15, 16, 17], [10, 18, 19, 20, 21, 22, 23], [9, 24, 25, 26, 27, 28, 29, 30, 31, 32, 33, 34, 35, 36, 37], [38, 39], [40], [0, 1, 2, 7, 11, 12, 13, 14, 41, 42, 43, 44, 45, 46, 47, 48, 49, 50, 51, 52, 53, 54, 55, 56], [8, 57, 58]] Tryz.f315 = some F } := by
  refine ⟨?F, ?h⟩
  case h =>
    conv => lhs; cbv
theorem c315 : Cert 315 T315.1 := cert_of T315.2 Tryz.func315
-- suffrage/nat.back
noncomputable def T316 : { F : AFunc // CT.func [[], [], [], [10, 11, 12, 13], [5, 6, 14, 15, 16, 17, 18, 19, 20, 21, 22, 23, 24, 25, 26], [27], [0, 1, 4, 7, 8, 9, 10, 28, 29, 30, 31, 32, 33, 34, 35]] Tryz.f316 = some F } := by
  refine ⟨?F, ?h⟩
  case h =>
    conv => lhs; cbv
theorem c316 : Cert 316 T316.1 := cert_of T316.2 Tryz.func316
-- slices.insertionSortCmpFunc[suffrage/api.Link]
noncomputable def T317 : { F : AFunc // CT.func [[10, 11], [12, 13], [9, 15, 16, 34], [14, 17], [18, 19, 20, 21, 22, 23, 24, 25, 26, 27, 28, 29, 30, 31, 32, 33], [35, 36], [34, 37, 38, 39, 40, 41, 42, 43, 44, 45, 46, 47, 48, 49, 50, 51, 52]] Tryz.f317 = some F } := by
  refine ⟨?F, ?h⟩
  case h =>
    conv => lhs; cbv
theorem c317 : Cert 317 T317.1 := cert_of T317.2 Tryz.func317
-- slices.symMergeCmpFunc[suffrage/api.Link]
noncomputable def T318 : { F : AFunc // CT.func [[25, 26, 27], [2, 28, 29], [3, 30], [31, 32], [33, 34, 35, 36, 37, 38, 39], [40, 41, 42, 43, 44, 45, 46, 47, 48, 49], [12, 50, 51, 52], [12, 50, 53], [1, 4, 11, 33, 54], [55, 56, 57], [59, 60], [58, 61, 62, 63, 64, 65, 66, 67, 68, 69, 70, 71, 72, 73, 74, 75, 76], [28, 77, 78, 79], [1, 3, 80, 81], [82], [83, 84], [85, 86, 87, 88, 89, 90, 91], [92, 93, 94, 95, 96, 97, 98, 99, 100, 101, 102], [16, 103, 104, 105], [16, 103, 106], [2, 4, 15, 85, 107], [108, 109], [111, 112], [110, 113, 114, 115, 116, 117, 118, 119, 120, 121, 122, 123, 124, 125, 126, 127, 128], [80, 129, 130, 131, 132, 133, 134], [135, 136, 137], [20, 21], [138, 139], [140, 141, 142, 143], [144], [140, 145], [146], [147, 148], [149, 150], [151, 152, 153, 154, 155, 156, 157], [158, 159, 160, 161, 162, 163, 164, 165, 166, 167, 168, 169, 170], [23, 171, 172, 173], [23, 171, 174], [19, 21, 22, 151, 175, 176, 177], [178, 179, 180, 181, 182, 183, 184], [2, 185, 186, 187, 188, 189, 190, 191], [2, 185, 192, 193, 194, 195, 196, 197, 198], [1, 20, 199, 200, 201, 202, 203, 204, 205], [1, 20, 199, 206, 207, 208, 209, 210, 211, 212], [0, 3, 4, 18, 24, 213, 214, 215, 216, 217, 218, 219]] Tryz.f318 = some F } := FN _ Tryz.f318 220 5 [] (PC.seq (PC.seq ⟨_, by conv => lhs; cbv⟩ (PC.cond (.t 28) (PC.seq ⟨_, by conv => lhs; cbv⟩ (PC.seq ⟨_, by conv => lhs; cbv⟩ (PC.seq ⟨_, by conv => lhs; cbv⟩ ⟨_, by conv => lhs; cbv⟩))) ⟨_, by conv => lhs; cbv⟩)) (PC.seq (PC.seq ⟨_, by conv => lhs; cbv⟩ (PC.cond (.t 80) (PC.seq ⟨_, by conv => lhs; cbv⟩ (PC.seq ⟨_, by conv => lhs; cbv⟩ (PC.seq ⟨_, by conv => lhs; cbv⟩ ⟨_, by conv => lhs; cbv⟩))) ⟨_, by conv => lhs; cbv⟩)) (PC.seq ⟨_, by conv => lhs; cbv⟩ (PC.seq ⟨_, by conv => lhs; cbv⟩ (PC.seq ⟨_, by conv => lhs; cbv⟩ (PC.seq ⟨_, by conv => lhs; cbv⟩ (PC.seq ⟨_, by conv => lhs; cbv⟩ (PC.seq ⟨_, by conv => lhs; cbv⟩ ⟨_, by conv => lhs; cbv⟩))))))))
theorem c318 : Cert 318 T318.1 := cert_of T318.2 Tryz.func318
-- math/bits.Div64
noncomputable def T319 : { F : AFunc // CT.func [[6, 7], [19], [20, 21], [20, 22, 23], [24, 25], [24, 26], [0, 1, 2, 27, 28, 29, 30, 31, 32, 33], [27, 34, 35, 36], [37, 38, 39], [40, 41], [42, 43], [0, 44, 45, 46, 47, 48, 49, 50, 51], [1, 52, 53, 54], [55, 56], [12, 57, 58], [59, 60, 61], [62, 63, 64, 65, 66], [67, 68, 69, 70, 71, 72, 73, 74, 75, 76, 77, 85], [78, 79, 80], [81, 82, 83], [84], [11, 13, 16, 78, 85, 86, 87, 88, 89, 90, 91, 92, 93], [94, 95, 96], [97, 98, 99, 100, 101], [102, 103, 104, 105, 106, 107, 108, 109, 110, 111, 112, 120], [113, 114, 115], [116, 117, 118], [119], [2, 8, 9, 10, 14, 15, 16, 17, 18, 113, 120, 121, 122, 123, 124, 125, 126, 127, 128, 129, 130, 131, 132, 133, 134]] Tryz.f319 = some F } := FN _ Tryz.f319 135 3 [.t 6, .t 7] (PC.seq ⟨_, by conv => lhs; cbv⟩ (PC.seq ⟨_, by conv => lhs; cbv⟩ (PC.seq ⟨_, by conv => lhs; cbv⟩ (PC.seq ⟨_, by conv => lhs; cbv⟩ (PC.seq ⟨_, by conv => lhs; cbv⟩ (PC.seq ⟨_, by conv => lhs; cbv⟩ (PC.seq ⟨_, by conv => lhs; cbv⟩ (PC.seq ⟨_, by conv => lhs; cbv⟩ (PC.seq ⟨_, by conv => lhs; cbv⟩ (PC.seq ⟨_, by conv => lhs; cbv⟩ (PC.seq ⟨_, by conv => lhs; cbv⟩ (PC.seq ⟨_, by conv => lhs; cbv⟩ (PC.seq ⟨_, by conv => lhs; cbv⟩ (PC.seq ⟨_, by conv => lhs; cbv⟩ (PC.seq ⟨_, by conv => lhs; cbv⟩ (PC.seq ⟨_, by conv => lhs; cbv⟩ ⟨_, by conv => lhs; cbv⟩))))))))))))))))
theorem c319 : Cert 319 T319.1 := cert_of T319.2 Tryz.func319
-- suffrage/nat.times
noncomputable def T320 : { F : AFunc // CT.func [[], [], [], [12, 13, 14, 15], [8, 16, 17, 18, 19, 20, 21, 22, 23, 24, 25, 26, 27, 28], [7, 29, 30, 31, 32, 33], [34, 35], [36], [0, 1, 2, 6, 9, 10, 11, 12, 37, 38, 39, 40, 41, 42, 43, 44, 45]] Tryz.f320 = some F } := by
  refine ⟨?F, ?h⟩
  case h =>
    conv => lhs; cbv
theorem c320 : Cert 320 T320.1 := cert_of T320.2 Tryz.func320
-- suffrage/nat.fits
noncomputable def T321 : { F : AFunc // CT.func [[2, 3], [4, 5], [6, 7], [0, 8], [0, 8, 9]] Tryz.f321 = some F } := by
  refine ⟨?F, ?h⟩
  case h =>
    conv => lhs; cbv
theorem c321 : Cert 321 T321.1 := cert_of T321.2 Tryz.func321
-- math/bits.Add32
noncomputable def T322 : { F : AFunc // CT.func [[6, 7], [0, 1, 2, 9, 10, 11, 12, 13, 14, 15, 16], [17, 18], [8, 19, 20, 21]] Tryz.f322 = some F } := by
  refine ⟨?F, ?h⟩
  case h =>
    conv => lhs; cbv
theorem c322 : Cert 322 T322.1 := cert_of T322.2 Tryz.func322
-- suffrage/nat.limb
noncomputable def T323 : { F : AFunc // CT.func [[4], [5, 6, 7], [0, 1, 8], [0, 1, 8, 9, 10, 11, 12]] Tryz.f323 = some F } := by
  refine ⟨?F, ?h⟩
  case h =>
    conv => lhs; cbv
theorem c323 : Cert 323 T323.1 := cert_of T323.2 Tryz.func323
-- suffrage/nat.less
noncomputable def T324 : { F : AFunc // CT.func [[4], [8, 9, 10], [], [11], [], [14, 15], [7, 16, 17, 18, 19, 20, 21, 22, 23, 24, 25, 26, 27, 28, 29, 30], [31], [0, 1, 5, 6, 12, 13, 14, 32, 33]] Tryz.f324 = some F } := by
  refine ⟨?F, ?h⟩
  case h =>
    conv => lhs; cbv
theorem c324 : Cert 324 T324.1 := cert_of T324.2 Tryz.func324
-- slices.siftDownOrdered[int]
noncomputable def T325 : { F : AFunc // CT.func [[1, 10], [11, 12, 13], [14, 15], [16, 17, 18, 19, 20, 21, 22, 23, 24, 25, 26, 27, 28, 29, 30, 31, 32, 33, 34, 35], [36, 37, 38], [36, 39, 40, 41, 42, 43, 44, 45, 46, 47, 48, 49, 50, 51], [8, 52, 53, 54, 55, 56, 57, 58, 59, 60, 61, 62, 63, 64, 65, 66, 67, 68, 69, 70, 71, 72, 73, 74], [9, 75]] Tryz.f325 = some F } := by
  refine ⟨?F, ?h⟩
  case h =>
    conv => lhs; cbv
theorem c325 : Cert 325 T325.1 := cert_of T325.2 Tryz.func325
-- slices.medianAdjacentOrdered[int]
noncomputable def T326 : { F : AFunc // CT.func [[6], [0, 1, 2, 7, 8, 9, 10, 11, 12, 13, 14]] Tryz.f326 = some F } := by
  refine ⟨?F, ?h⟩
  case h =>
    conv => lhs; cbv
theorem c326 : Cert 326 T326.1 := cert_of T326.2 Tryz.func326
-- slices.medianOrdered[int]
noncomputable def T327 : { F : AFunc // CT.func [[10], [11, 12, 13, 14, 15, 16, 17, 18], [3, 19, 20, 21, 22, 23, 24, 25, 26], [0, 1, 4, 27, 28, 29, 30, 31, 32, 33, 34], [2, 35]] Tryz.f327 = some F } := by
  refine ⟨?F, ?h⟩
  case h =>
    conv => lhs; cbv
theorem c327 : Cert 327 T327.1 := cert_of T327.2 Tryz.func327
-- math/bits.Sub32
noncomputable def T328 : { F : AFunc // CT.func [[6, 7], [2, 8, 9, 10, 11, 12], [0, 1, 13, 14, 15, 16, 17, 18, 19, 20, 21, 22, 23, 24]] Tryz.f328 = some F } := by
  refine ⟨?F, ?h⟩
  case h =>
    conv => lhs; cbv
theorem c328 : Cert 328 T328.1 := cert_of T328.2 Tryz.func328
-- slices.rotateCmpFunc[suffrage/api.Link]
noncomputable def T329 : { F : AFunc // CT.func [[1, 12, 13, 14], [3, 15, 16, 17], [18, 19], [20, 21, 22], [23, 24, 25, 26, 27, 28, 29, 30, 31], [32, 33, 34], [23, 35, 36, 37, 38, 39, 40, 41, 42, 43, 44, 45, 46], [47, 48, 49], [0, 2, 4, 10, 11, 20, 50, 51, 52, 53, 54, 55, 56, 57]] Tryz.f329 = some F } := by
  refine ⟨?F, ?h⟩
  case h =>
    conv => lhs; cbv
theorem c329 : Cert 329 T329.1 := cert_of T329.2 Tryz.func329
-- math/bits.LeadingZeros64
noncomputable def T330 : { F : AFunc // CT.func [[2], [0, 3, 4, 5]] Tryz.f330 = some F } := by
  refine ⟨?F, ?h⟩
  case h =>
    conv => lhs; cbv
theorem c330 : Cert 330 T330.1 := cert_of T330.2 Tryz.func330
-- slices.order2Ordered[int]
noncomputable def T331 : { F : AFunc // CT.func [[8, 9], [0, 10, 11, 12, 13, 14, 15, 16, 17], [3, 18, 19, 20, 21, 22, 23], [1, 2, 24, 25], [1, 2, 3, 18, 26, 27]] Tryz.f331 = some F } := by
  refine ⟨?F, ?h⟩
  case h =>
    conv => lhs; cbv
theorem c331 : Cert 331 T331.1 := cert_of T331.2 Tryz.func331
-- slices.swapRangeCmpFunc[suffrage/api.Link]
noncomputable def T332 : { F : AFunc // CT.func [[4], [11, 12], [14, 15], [13, 16, 17, 18, 19, 20, 21, 22, 23, 24, 25, 26, 27, 28, 29, 30, 31, 32, 33, 34, 35, 36, 37]] Tryz.f332 = some F } := by
  refine ⟨?F, ?h⟩
  case h =>
    conv => lhs; cbv
theorem c332 : Cert 332 T332.1 := cert_of T332.2 Tryz.func332
-- (suffrage/coombs.most).elects
noncomputable def T349 : { F : AFunc // CT.func [[0, 1, 3, 6, 7], [], [], [], [15, 16, 17], [10, 18, 19, 20], [21], [12, 13, 14, 15, 22, 23, 24, 25, 26], [2, 4, 8, 11, 27, 28, 29, 30, 31, 32, 33, 34, 35, 36, 37, 38, 39]] Tryz.f349 = some F } := by
  refine ⟨?F, ?h⟩
  case h =>
    conv => lhs; cbv
theorem c349 : Cert 349 T349.1 := cert_of T349.2 Tryz.func349
-- (suffrage/coombs.most).out
noncomputable def T350 : { F : AFunc // CT.func [[0, 4], [2, 6, 7, 8, 9], [1, 5, 10, 11, 12]] Tryz.f350 = some F } := by
  refine ⟨?F, ?h⟩
  case h =>
    conv => lhs; cbv
theorem c350 : Cert 350 T350.1 := cert_of T350.2 Tryz.func350
end Go.Proofs.YtncdaicaljpgfaaGreat
