/- The functions in the abstract language, worked out by Lean. -/
import Derived.Test.YtnhfbabenifbkaaGreatDoorAlX
set_option linter.unusedVariables false
set_option maxHeartbeats 1000000
set_option maxRecDepth 100000
namespace Go.Proofs.YtnhfbabenifbkaaGreatDoor
-- slices.breakPatternsOrdered[int]
noncomputable def T75 : { F : AFunc // CT.func [[2, 11, 12, 13], [14], [15, 16, 17], [18, 19], [20, 21, 22, 23, 24, 25], [26, 27, 28, 29, 30, 31, 32], [34, 35], [33, 36, 37, 38, 39, 40], [41, 42], [43, 44, 45, 46], [10, 43, 47, 48, 49, 50, 51, 52, 53, 54, 55, 56, 57, 58, 59, 60, 61, 62, 63, 64]] Tryz.f75 = some F } := by
  refine ⟨?F, ?h⟩
  case h =>
    conv => lhs; cbv
theorem c75 : Cert 75 T75.1 := cert_of T75.2 Tryz.func75
-- slices.choosePivotOrdered[int]
noncomputable def T76 : { F : AFunc // CT.func [[6, 7], [2, 13, 14, 15], [], [16, 17, 18, 19, 20], [21, 22, 23, 24, 25], [1, 26, 27, 28, 29, 30], [31], [8, 32, 33], [34, 35, 36, 37], [38, 39, 40], [41, 42, 43], [0, 10, 12, 34, 44, 45, 46, 47, 48], [0, 8, 9, 10, 12, 32], [11, 50, 54], [52], [11, 49, 51, 53], [49, 51, 55], [11, 54, 56]] Tryz.f76 = some F } := by
  refine ⟨?F, ?h⟩
  case h =>
    conv => lhs; cbv
theorem c76 : Cert 76 T76.1 := cert_of T76.2 Tryz.func76
-- slices.reverseRangeOrdered[int]
noncomputable def T77 : { F : AFunc // CT.func [[1, 8], [2, 9, 10], [11, 12], [13, 14, 15, 16, 17, 18, 19, 20, 21, 22, 23, 24, 25, 26, 27], [28, 29], [30, 31]] Tryz.f77 = some F } := by
  refine ⟨?F, ?h⟩
  case h =>
    conv => lhs; cbv
theorem c77 : Cert 77 T77.1 := cert_of T77.2 Tryz.func77
-- slices.partialInsertionSortOrdered[int]
noncomputable def T78 : { F : AFunc // CT.func [[6], [11, 12], [], [13], [10, 15, 16, 98, 103, 116], [14, 17, 18, 19, 20, 21, 22, 23, 24, 25, 26, 27, 28, 29, 30, 31], [32, 33, 34], [32, 35, 36], [0, 1, 2, 7, 8, 37], [37, 38, 39, 40], [0, 1, 2, 7, 8, 41], [41, 42, 43, 44, 45, 46, 47, 48, 49, 50, 51, 52, 53, 54, 55, 56, 57], [58, 59, 60], [61, 62, 63], [64], [66, 67], [65, 68, 69, 70, 71, 72, 73, 74, 75, 76, 77], [78, 79, 80, 81, 82, 83, 84, 85, 86, 87, 88, 89, 90, 91, 92, 93, 94], [9, 61, 65, 78, 95, 96, 97], [98, 99, 100], [101, 102], [104, 105], [103, 106, 107, 108, 109, 110, 111, 112, 113, 114, 115], [116, 117, 118, 119, 120, 121, 122, 123, 124, 125, 126, 127, 128, 129, 130, 131, 132], [0, 1, 2, 7, 8, 14]] Tryz.f78 = some F } := by
  refine ⟨?F, ?h⟩
  case h =>
    conv => lhs; cbv
theorem c78 : Cert 78 T78.1 := cert_of T78.2 Tryz.func78
-- slices.partitionEqualOrdered[int]
noncomputable def T79 : { F : AFunc // CT.func [[8], [3, 11, 12, 13, 14, 15, 16, 17, 18, 19, 20, 21, 22, 23, 24], [2, 25, 26, 27, 28], [29, 30, 31, 32, 33, 34, 35, 36, 37, 38, 39, 40, 41, 42], [43, 44, 45], [43, 46, 47, 48, 49, 50, 51, 52, 53, 54, 55, 56, 57, 58], [59, 60, 61], [59, 62, 63], [64, 65, 66, 67, 68, 69, 70, 71, 72, 73, 74, 75, 76, 77, 78], [79, 80], [81, 82], [0, 1, 9, 10, 64, 83]] Tryz.f79 = some F } := by
  refine ⟨?F, ?h⟩
  case h =>
    conv => lhs; cbv
theorem c79 : Cert 79 T79.1 := cert_of T79.2 Tryz.func79
-- slices.partitionOrdered[int]
noncomputable def T80 : { F : AFunc // CT.func [[8, 9], [3, 12, 13, 14, 15, 16, 17, 18, 19, 20, 21, 22, 23, 24, 25], [2, 26, 27, 28, 29], [30, 31, 32, 33, 34, 35, 36, 37, 38, 39, 40, 41, 42], [43, 44, 45], [43, 46, 47, 48, 49, 50, 51, 52, 53, 54, 55, 56, 57, 58, 59], [60, 61, 62], [60, 63, 64], [0, 1, 10, 65, 66, 67, 68, 69, 70, 71, 72, 73, 74, 75, 76, 77, 78, 79], [11, 80], [65, 81, 82, 83, 84, 85, 86, 87, 88, 89, 90, 91, 92, 93, 94], [95, 96], [97, 98], [99, 100, 101, 102, 103, 104, 105, 106, 107, 108, 109, 110, 111], [112, 113, 114], [112, 115, 116, 117, 118, 119, 120, 121, 122, 123, 124, 125, 126, 127, 128], [129, 130, 131], [129, 132, 133], [134, 135, 136, 137, 138, 139, 140, 141, 142, 143, 144, 145, 146, 147, 148], [149, 150], [151, 152], [0, 1, 10, 134, 153, 154, 155, 156, 157, 158, 159, 160, 161, 162, 163, 164, 165, 166], [11, 167]] Tryz.f80 = some F } := by
  refine ⟨?F, ?h⟩
  case h =>
    conv => lhs; cbv
theorem c80 : Cert 80 T80.1 := cert_of T80.2 Tryz.func80
-- math/bits.Len32
noncomputable def T81 : { F : AFunc // CT.func [[], [3], [2, 4, 5, 6], [], [4, 7], [8, 9, 10], [11, 12], [0, 8, 13, 14, 15, 16, 17, 18]] Tryz.f81 = some F } := by
  refine ⟨?F, ?h⟩
  case h =>
    conv => lhs; cbv
theorem c81 : Cert 81 T81.1 := cert_of T81.2 Tryz.func81
-- math/bits.Len64
noncomputable def T82 : { F : AFunc // CT.func [[], [3], [2, 4, 5, 6], [], [4, 7], [8, 9, 10], [11, 12], [8, 13], [14, 15, 16], [17, 18], [0, 14, 19, 20, 21, 22, 23, 24]] Tryz.f82 = some F } := by
  refine ⟨?F, ?h⟩
  case h =>
    conv => lhs; cbv
theorem c82 : Cert 82 T82.1 := cert_of T82.2 Tryz.func82
-- internal/strconv.FormatInt
noncomputable def T83 : { F : AFunc // CT.func [[4], [10], [1, 11, 12, 13, 14, 15, 16], [0, 17, 18, 19], [17], [20, 21], [22], [23, 24, 25], [23, 26, 27], [6, 28, 29, 30, 31, 32], [0, 33], [34, 35], [5, 7, 36, 37, 38, 39], [5, 7, 34, 40, 41, 42, 43], [0, 1, 8, 11, 44, 45, 46, 47, 48, 49, 50, 51, 52], [9, 53]] Tryz.f83 = some F } := by
  refine ⟨?F, ?h⟩
  case h =>
    conv => lhs; cbv
theorem c83 : Cert 83 T83.1 := cert_of T83.2 Tryz.func83
-- strings.explode
noncomputable def T84 : { F : AFunc // CT.func [[4], [10, 11], [12, 13, 14, 15, 16, 17], [5, 18, 19], [5, 18, 20, 21], [], [22, 23, 24], [26, 27], [8, 25, 28, 29, 30, 31, 32], [33, 34, 35, 36, 37, 38], [9, 39, 40, 41], [7, 25, 42], [0, 1, 43, 44, 45, 46, 47, 48], [0, 1, 6, 43, 49]] Tryz.f84 = some F } := by
  refine ⟨?F, ?h⟩
  case h =>
    conv => lhs; cbv
theorem c84 : Cert 84 T84.1 := cert_of T84.2 Tryz.func84
-- strings.Count
noncomputable def T85 : { F : AFunc // CT.func [[4], [7, 8], [0, 1, 9, 10, 11, 12], [9, 13, 14], [0, 1, 15, 16, 17, 18, 19], [15], [20, 21, 22], [23], [0, 1, 5, 6, 24, 25], [24, 26, 27], [6, 28, 29, 30, 31, 32, 33]] Tryz.f85 = some F } := by
  refine ⟨?F, ?h⟩
  case h =>
    conv => lhs; cbv
theorem c85 : Cert 85 T85.1 := cert_of T85.2 Tryz.func85
-- strings.Index
noncomputable def T86 : { F : AFunc // CT.func [[4], [0, 1, 5, 6, 7]] Tryz.f86 = some F } := by
  refine ⟨?F, ?h⟩
  case h =>
    conv => lhs; cbv
theorem c86 : Cert 86 T86.1 := cert_of T86.2 Tryz.func86
-- internal/strconv.ParseInt
noncomputable def T87 : { F : AFunc // CT.func [[6, 7], [12], [0, 1, 2, 13, 14], [13], [15], [18], [16, 17, 19, 20], [16, 17, 22], [8, 21, 23, 24], [], [9, 21], [0, 1, 25, 26, 27, 28, 29, 30, 31], [32, 33, 34, 35, 36, 37], [2, 8, 9, 38, 39], [7, 38, 40], [41], [2, 41, 42, 43, 44, 45], [46, 47, 48, 49, 50, 51], [8, 9, 10, 52, 53, 54, 55, 56], [52, 57, 58, 59, 60, 61], [8, 9, 10, 62, 63, 64, 65, 66], [9, 10, 62, 67, 68], [8], [69, 70, 71], [11, 69, 72]] Tryz.f87 = some F } := by
  refine ⟨?F, ?h⟩
  case h =>
    conv => lhs; cbv
theorem c87 : Cert 87 T87.1 := cert_of T87.2 Tryz.func87
-- strconv.syntaxError
noncomputable def T88 : { F : AFunc // CT.func [[4], [0, 1, 5, 6, 7, 8, 9, 10]] Tryz.f88 = some F } := by
  refine ⟨?F, ?h⟩
  case h =>
    conv => lhs; cbv
theorem c88 : Cert 88 T88.1 := cert_of T88.2 Tryz.func88
-- strconv.rangeError
noncomputable def T89 : { F : AFunc // CT.func [[4], [0, 1, 5, 6, 7, 8, 9, 10]] Tryz.f89 = some F } := by
  refine ⟨?F, ?h⟩
  case h =>
    conv => lhs; cbv
theorem c89 : Cert 89 T89.1 := cert_of T89.2 Tryz.func89
-- strconv.baseError
noncomputable def T90 : { F : AFunc // CT.func [[6], [0, 1, 2, 7, 8, 9, 10, 11, 12, 13, 14, 15]] Tryz.f90 = some F } := by
  refine ⟨?F, ?h⟩
  case h =>
    conv => lhs; cbv
theorem c90 : Cert 90 T90.1 := cert_of T90.2 Tryz.func90
-- strconv.bitSizeError
noncomputable def T91 : { F : AFunc // CT.func [[6], [0, 1, 2, 7, 8, 9, 10, 11, 12, 13, 14, 15]] Tryz.f91 = some F } := by
  refine ⟨?F, ?h⟩
  case h =>
    conv => lhs; cbv
theorem c91 : Cert 91 T91.1 := cert_of T91.2 Tryz.func91
-- slices.AppendSeq[[]int,int]
noncomputable def T92 : { F : AFunc // CT.func [[0, 4], [1], [6, 7], [2, 5, 8, 9, 10, 11], [2, 6, 12]] Tryz.f92 = some F } := by
  refine ⟨?F, ?h⟩
  case h =>
    conv => lhs; cbv
theorem c92 : Cert 92 T92.1 := cert_of T92.2 Tryz.func92
-- slices.siftDownOrdered[int]
noncomputable def T93 : { F : AFunc // CT.func [[1, 10], [11, 12, 13], [14, 15], [16, 17, 18, 19, 20, 21, 22, 23, 24, 25, 26, 27, 28, 29, 30, 31, 32, 33, 34, 35], [36, 37, 38], [36, 39, 40, 41, 42, 43, 44, 45, 46, 47, 48, 49, 50, 51], [8, 52, 53, 54, 55, 56, 57, 58, 59, 60, 61, 62, 63, 64, 65, 66, 67, 68, 69, 70, 71, 72, 73, 74], [9, 75]] Tryz.f93 = some F } := by
  refine ⟨?F, ?h⟩
  case h =>
    conv => lhs; cbv
theorem c93 : Cert 93 T93.1 := cert_of T93.2 Tryz.func93
-- slices.nextPowerOfTwo
noncomputable def T94 : { F : AFunc // CT.func [[2], [0, 3, 4, 5, 6]] Tryz.f94 = some F } := by
  refine ⟨?F, ?h⟩
  case h =>
    conv => lhs; cbv
theorem c94 : Cert 94 T94.1 := cert_of T94.2 Tryz.func94
-- (*slices.xorshift).Next
noncomputable def T95 : { F : AFunc // CT.func [[2], [3, 4, 5, 6, 7, 8, 9, 10, 11], [12, 13, 14, 15, 16, 17, 18, 19, 20], [21, 22, 23, 24, 25, 26, 27, 28, 29], [0, 30, 31, 32]] Tryz.f95 = some F } := by
  refine ⟨?F, ?h⟩
  case h =>
    conv => lhs; cbv
theorem c95 : Cert 95 T95.1 := cert_of T95.2 Tryz.func95
-- slices.medianAdjacentOrdered[int]
noncomputable def T96 : { F : AFunc // CT.func [[6], [0, 1, 2, 7, 8, 9, 10, 11, 12, 13, 14]] Tryz.f96 = some F } := by
  refine ⟨?F, ?h⟩
  case h =>
    conv => lhs; cbv
theorem c96 : Cert 96 T96.1 := cert_of T96.2 Tryz.func96
-- slices.medianOrdered[int]
noncomputable def T97 : { F : AFunc // CT.func [[10], [11, 12, 13, 14, 15, 16, 17, 18], [3, 19, 20, 21, 22, 23, 24, 25, 26], [0, 1, 4, 27, 28, 29, 30, 31, 32, 33, 34], [2, 35]] Tryz.f97 = some F } := by
  refine ⟨?F, ?h⟩
  case h =>
    conv => lhs; cbv
theorem c97 : Cert 97 T97.1 := cert_of T97.2 Tryz.func97
-- internal/strconv.small
noncomputable def T98 : { F : AFunc // CT.func [[2], [3], [0, 4, 5, 6, 7, 8], [0, 4, 9, 10, 11, 12, 13, 14]] Tryz.f98 = some F } := by
  refine ⟨?F, ?h⟩
  case h =>
    conv => lhs; cbv
theorem c98 : Cert 98 T98.1 := cert_of T98.2 Tryz.func98
end Go.Proofs.YtnhfbabenifbkaaGreatDoor
