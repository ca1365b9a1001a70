/- The functions in the abstract language, worked out by Lean. -/
import Derived.Test.YtnhfbabenifbkaaGreatDoorAlX
set_option linter.unusedVariables false
set_option maxHeartbeats 1000000
set_option maxRecDepth 100000
namespace Go.Proofs.YtnhfbabenifbkaaGreatDoor
-- suffrage/ballot.names
noncomputable def T51 : { F : AFunc // CT.func [[0], [1]] Tryz.f51 = some F } := by
  refine ⟨?F, ?h⟩
  case h =>
    conv => lhs; cbv
theorem c51 : Cert 51 T51.1 := cert_of T51.2 Tryz.func51
-- strconv.Itoa
noncomputable def T52 : { F : AFunc // CT.func [[2], [0, 3, 4]] Tryz.f52 = some F } := by
  refine ⟨?F, ?h⟩
  case h =>
    conv => lhs; cbv
theorem c52 : Cert 52 T52.1 := cert_of T52.2 Tryz.func52
-- suffrage/suffrageref08.digits
noncomputable def T53 : { F : AFunc // CT.func [[2], [], [5, 6, 7, 8, 9, 10, 11], [12], [0, 3, 13, 14, 15, 16, 17, 18, 19, 20, 21, 22], [0, 3, 4, 13, 23]] Tryz.f53 = some F } := by
  refine ⟨?F, ?h⟩
  case h =>
    conv => lhs; cbv
theorem c53 : Cert 53 T53.1 := cert_of T53.2 Tryz.func53
-- strings.Split
noncomputable def T54 : { F : AFunc // CT.func [[4], [0, 1, 5, 6, 7]] Tryz.f54 = some F } := by
  refine ⟨?F, ?h⟩
  case h =>
    conv => lhs; cbv
theorem c54 : Cert 54 T54.1 := cert_of T54.2 Tryz.func54
-- slices.Index[[]string,string]
noncomputable def T55 : { F : AFunc // CT.func [[4], [6], [], [9, 10], [11, 12, 13, 14, 15], [0, 1, 5, 7, 8, 16, 17], [5, 16, 18], [0, 1, 7, 8, 9]] Tryz.f55 = some F } := by
  refine ⟨?F, ?h⟩
  case h =>
    conv => lhs; cbv
theorem c55 : Cert 55 T55.1 := cert_of T55.2 Tryz.func55
-- strconv.Atoi
noncomputable def T56 : { F : AFunc // CT.func [[2, 3], [6, 7, 8, 9, 10], [11], [0, 4, 5, 12, 13, 14, 15, 16], [0, 4, 5, 12, 17]] Tryz.f56 = some F } := by
  refine ⟨?F, ?h⟩
  case h =>
    conv => lhs; cbv
theorem c56 : Cert 56 T56.1 := cert_of T56.2 Tryz.func56
-- suffrage/suffrageref08.number
noncomputable def T57 : { F : AFunc // CT.func [[2], [], [4], [6, 7, 11], [5, 8, 9, 10], [0, 3, 11, 12], [0, 3, 5]] Tryz.f57 = some F } := by
  refine ⟨?F, ?h⟩
  case h =>
    conv => lhs; cbv
theorem c57 : Cert 57 T57.1 := cert_of T57.2 Tryz.func57
-- slices.IsSorted[[]int,int]
noncomputable def T58 : { F : AFunc // CT.func [[2], [4, 5, 6], [7], [9, 10, 20], [8, 11, 12, 13, 14, 15, 16, 17, 18, 19], [0, 3, 20], [0, 3, 8]] Tryz.f58 = some F } := by
  refine ⟨?F, ?h⟩
  case h =>
    conv => lhs; cbv
theorem c58 : Cert 58 T58.1 := cert_of T58.2 Tryz.func58
-- cmp.Compare[int]
noncomputable def T59 : { F : AFunc // CT.func [[4], [7, 8], [9, 10], [5], [0, 1, 6, 11], [12], [12], [6, 11], [0, 1, 13], [13, 14, 15], [0, 1, 16], [0, 1, 16, 17, 18], [19], [19]] Tryz.f59 = some F } := by
  refine ⟨?F, ?h⟩
  case h =>
    conv => lhs; cbv
theorem c59 : Cert 59 T59.1 := cert_of T59.2 Tryz.func59
-- slices.IndexFunc[[]int,int]
noncomputable def T60 : { F : AFunc // CT.func [[4], [6], [], [9, 10], [11, 12, 13, 14, 15], [0, 1, 5, 7, 8, 16, 17], [5, 16, 18], [0, 1, 7, 8, 9]] Tryz.f60 = some F } := by
  refine ⟨?F, ?h⟩
  case h =>
    conv => lhs; cbv
theorem c60 : Cert 60 T60.1 := cert_of T60.2 Tryz.func60
-- slices.Sorted[int]
noncomputable def T61 : { F : AFunc // CT.func [[2], [0, 4, 5], [6, 7], [3, 8]] Tryz.f61 = some F } := by
  refine ⟨?F, ?h⟩
  case h =>
    conv => lhs; cbv
theorem c61 : Cert 61 T61.1 := cert_of T61.2 Tryz.func61
-- slices.Values[[]int,int]
noncomputable def T62 : { F : AFunc // CT.func [[0, 2], [1, 3]] Tryz.f62 = some F } := by
  refine ⟨?F, ?h⟩
  case h =>
    conv => lhs; cbv
theorem c62 : Cert 62 T62.1 := cert_of T62.2 Tryz.func62
-- slices.pdqsortOrdered[int]
noncomputable def T63 : { F : AFunc // CT.func [[], [], [19, 20, 21], [22], [0, 1, 2, 3, 8, 9, 10, 23, 24, 25, 26, 27], [23, 28], [0, 1, 2, 3, 8, 9, 10, 29, 30, 31, 32, 33], [29, 34], [35, 36, 37, 38, 39], [40, 41], [35, 42, 43, 44, 45, 46, 47, 48], [49], [12, 50, 51, 52, 53, 54], [55, 56, 57, 58, 59, 60], [], [12, 50, 61, 62, 63, 64, 65, 66, 67], [68, 69, 70, 71], [68, 72, 73, 74, 75, 76, 77, 78, 79, 80, 81, 82, 83, 84, 85, 86], [1, 10, 11, 87, 88, 89, 90, 91, 92], [13, 93], [8, 9, 11, 87, 94, 95, 96, 97, 98, 99, 100, 101], [15, 102], [103, 104, 105, 106, 107, 108], [10, 109, 110], [111, 112], [16, 17, 18, 113, 114, 115, 116], [1, 117, 118, 119, 120, 121], [14, 122, 123], [16, 17, 18, 113, 124, 125, 126], [2, 127, 128, 129, 130, 131, 132], [14, 133]] Tryz.f63 = some F } := by
  refine ⟨?F, ?h⟩
  case h =>
    conv => lhs; cbv
theorem c63 : Cert 63 T63.1 := cert_of T63.2 Tryz.func63
-- math/bits.Len
noncomputable def T64 : { F : AFunc // CT.func [[2], [0, 3, 4, 5], [0, 6, 7]] Tryz.f64 = some F } := by
  refine ⟨?F, ?h⟩
  case h =>
    conv => lhs; cbv
theorem c64 : Cert 64 T64.1 := cert_of T64.2 Tryz.func64
-- internal/strconv.Itoa
noncomputable def T65 : { F : AFunc // CT.func [[2], [0, 3, 4]] Tryz.f65 = some F } := by
  refine ⟨?F, ?h⟩
  case h =>
    conv => lhs; cbv
theorem c65 : Cert 65 T65.1 := cert_of T65.2 Tryz.func65
-- strings.genSplit
noncomputable def T66 : { F : AFunc // CT.func [[8], [12], [0, 1, 2, 3, 13], [13, 14], [0, 1, 2, 3, 15, 16, 17, 18], [15, 19], [20, 21, 22, 23, 24], [20, 25, 26, 27, 28, 29], [30, 31], [32, 33], [], [34, 35], [36, 37, 38, 39], [40], [41, 42, 43, 44, 45, 46, 47, 48, 49], [11, 50, 51, 52, 53, 54, 55], [56, 57], [0, 1, 2, 3, 11, 36, 41, 58, 59, 60, 61], [9, 10, 62, 63, 64, 65]] Tryz.f66 = some F } := by
  refine ⟨?F, ?h⟩
  case h =>
    conv => lhs; cbv
theorem c66 : Cert 66 T66.1 := cert_of T66.2 Tryz.func66
-- internal/strconv.Atoi
noncomputable def T67 : { F : AFunc // CT.func [[2, 3], [11, 12], [4, 13, 14, 15, 16, 17, 18, 19, 20, 21, 22, 23, 24, 25, 26, 27, 28, 29], [30, 31], [32, 33, 34, 35, 36, 37, 38], [39, 40, 41], [42, 43], [0, 5, 44, 45], [39, 44], [0, 46], [], [50, 51, 52], [53, 54], [55], [5, 6, 8, 47, 48, 49, 56, 57], [8, 56, 58, 59, 60, 61, 62], [63], [5, 47, 48, 49, 50, 64, 65], [66, 67, 68], [6, 66, 69], [0, 30, 70, 71, 72, 73, 74], [9, 10, 75, 76]] Tryz.f67 = some F } := by
  refine ⟨?F, ?h⟩
  case h =>
    conv => lhs; cbv
theorem c67 : Cert 67 T67.1 := cert_of T67.2 Tryz.func67
-- strconv.toError
noncomputable def T68 : { F : AFunc // CT.func [[10], [], [13, 14], [0, 1, 2, 3, 4, 11, 12, 15, 16, 17, 18], [12, 20, 21], [0, 1, 2, 3, 4, 11, 19, 22, 23, 24, 25], [19, 27, 28], [0, 1, 2, 3, 4, 11, 26, 29, 30, 31, 32, 33], [2, 11, 26, 35, 36], [0, 1, 3, 4, 34, 37, 38, 39, 40, 41], [0, 1, 3, 4, 34, 42]] Tryz.f68 = some F } := by
  refine ⟨?F, ?h⟩
  case h =>
    conv => lhs; cbv
theorem c68 : Cert 68 T68.1 := cert_of T68.2 Tryz.func68
-- cmp.Less[int]
noncomputable def T69 : { F : AFunc // CT.func [[4], [0, 1, 5, 6, 7, 8, 9, 10, 11, 12, 13, 14, 15, 16]] Tryz.f69 = some F } := by
  refine ⟨?F, ?h⟩
  case h =>
    conv => lhs; cbv
theorem c69 : Cert 69 T69.1 := cert_of T69.2 Tryz.func69
-- cmp.isNaN[int]
noncomputable def T70 : { F : AFunc // CT.func [[2], [0, 3, 4, 5]] Tryz.f70 = some F } := by
  refine ⟨?F, ?h⟩
  case h =>
    conv => lhs; cbv
theorem c70 : Cert 70 T70.1 := cert_of T70.2 Tryz.func70
-- slices.Collect[int]
noncomputable def T71 : { F : AFunc // CT.func [[2], [0, 3, 4]] Tryz.f71 = some F } := by
  refine ⟨?F, ?h⟩
  case h =>
    conv => lhs; cbv
theorem c71 : Cert 71 T71.1 := cert_of T71.2 Tryz.func71
-- slices.Values[[]int,int]$1
noncomputable def T72 : { F : AFunc // CT.func [[1], [], [8, 9, 10], [4, 11, 12, 13], [14, 15]] Tryz.f72 = some F } := by
  refine ⟨?F, ?h⟩
  case h =>
    conv => lhs; cbv
theorem c72 : Cert 72 T72.1 := cert_of T72.2 Tryz.func72
-- slices.insertionSortOrdered[int]
noncomputable def T73 : { F : AFunc // CT.func [[8, 9], [10, 11], [7, 13, 14, 30], [12, 15], [16, 17, 18, 19, 20, 21, 22, 23, 24, 25, 26, 27, 28, 29], [31, 32], [30, 33, 34, 35, 36, 37, 38, 39, 40, 41, 42, 43, 44, 45, 46, 47, 48]] Tryz.f73 = some F } := by
  refine ⟨?F, ?h⟩
  case h =>
    conv => lhs; cbv
theorem c73 : Cert 73 T73.1 := cert_of T73.2 Tryz.func73
-- slices.heapSortOrdered[int]
noncomputable def T74 : { F : AFunc // CT.func [[11], [], [1, 2, 12, 13, 14], [15, 16, 17], [18], [20, 21], [19, 22, 23, 24, 25, 26], [8, 9, 19, 27, 28], [29], [31, 32], [30, 33, 34, 35, 36, 37, 38, 39, 40, 41, 42, 43, 44, 45, 46, 47, 48, 49, 50], [51, 52, 53, 54, 55]] Tryz.f74 = some F } := by
  refine ⟨?F, ?h⟩
  case h =>
    conv => lhs; cbv
theorem c74 : Cert 74 T74.1 := cert_of T74.2 Tryz.func74
end Go.Proofs.YtnhfbabenifbkaaGreatDoor
