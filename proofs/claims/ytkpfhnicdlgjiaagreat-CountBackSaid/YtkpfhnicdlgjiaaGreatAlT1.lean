/- The functions in the abstract language, worked out by Lean. -/
import Derived.Test.YtkpfhnicdlgjiaaGreatAlPc
set_option linter.unusedVariables false
set_option maxHeartbeats 1000000
set_option maxRecDepth 100000
namespace Go.Proofs.YtkpfhnicdlgjiaaGreat
-- suffrage/single.Plurality
noncomputable def T52 : { F : AFunc // CT.func [[0, 7], [1, 2, 3, 8, 9, 10, 11, 12, 13, 14]] Tryz.f52 = some F } := by
  refine ⟨?F, ?h⟩
  case h =>
    conv => lhs; cbv
theorem c52 : Cert 52 T52.1 := cert_of T52.2 Tryz.func52
-- suffrage/single.Approval
noncomputable def T53 : { F : AFunc // CT.func [[0, 7], [1, 2, 3, 8, 9, 10, 11, 12, 13, 14]] Tryz.f53 = some F } := by
  refine ⟨?F, ?h⟩
  case h =>
    conv => lhs; cbv
theorem c53 : Cert 53 T53.1 := cert_of T53.2 Tryz.func53
-- suffrage/single.Score
noncomputable def T54 : { F : AFunc // CT.func [[0, 7], [1, 2, 3, 8, 9, 10, 11, 12, 13, 14]] Tryz.f54 = some F } := by
  refine ⟨?F, ?h⟩
  case h =>
    conv => lhs; cbv
theorem c54 : Cert 54 T54.1 := cert_of T54.2 Tryz.func54
-- suffrage/single.Borda
noncomputable def T55 : { F : AFunc // CT.func [[0, 7], [1, 2, 3, 8, 9, 10, 11, 12, 13, 14]] Tryz.f55 = some F } := by
  refine ⟨?F, ?h⟩
  case h =>
    conv => lhs; cbv
theorem c55 : Cert 55 T55.1 := cert_of T55.2 Tryz.func55
-- suffrage/condorcet.Copeland
noncomputable def T56 : { F : AFunc // CT.func [[0, 7], [9], [1, 2, 3, 8, 10, 11, 12, 13, 14, 15, 16]] Tryz.f56 = some F } := by
  refine ⟨?F, ?h⟩
  case h =>
    conv => lhs; cbv
theorem c56 : Cert 56 T56.1 := cert_of T56.2 Tryz.func56
-- suffrage/condorcet.Minimax
noncomputable def T57 : { F : AFunc // CT.func [[0, 7], [9], [1, 2, 3, 8, 10, 11, 12, 13, 14, 15, 16]] Tryz.f57 = some F } := by
  refine ⟨?F, ?h⟩
  case h =>
    conv => lhs; cbv
theorem c57 : Cert 57 T57.1 := cert_of T57.2 Tryz.func57
-- suffrage/paths.Count
noncomputable def T58 : { F : AFunc // CT.func [[0, 7], [1, 18, 19, 20, 21], [22], [2, 3, 8, 23, 24, 25], [8, 10, 23, 26, 27, 28, 29, 30], [9, 12, 31, 32, 33, 34, 35, 36, 37], [38, 39, 40], [41], [], [44, 45], [46], [], [49, 50], [15, 51, 52, 53, 54, 55, 56, 57, 58, 59, 60, 61, 62, 63, 64, 65], [66, 67, 68, 69, 70, 71, 72], [66, 73], [14, 47, 48, 49, 74], [2, 11, 42, 43, 44, 75, 76], [3, 77, 78, 79, 80, 81, 82, 83], [84, 85, 86, 87, 88, 89], [13, 17, 90, 91, 92, 93, 94, 95, 96, 97, 98, 99, 100], [16, 101, 102, 103, 104]] Tryz.f58 = some F } := FN _ Tryz.f58 105 3 [.cell 6 3 false, .t 7] (PC.seq ⟨_, by conv => lhs; cbv⟩ (PC.seq ⟨_, by conv => lhs; cbv⟩ (PC.seq ⟨_, by conv => lhs; cbv⟩ (PC.seq ⟨_, by conv => lhs; cbv⟩ (PC.seq ⟨_, by conv => lhs; cbv⟩ ⟨_, by conv => lhs; cbv⟩)))))
theorem c58 : Cert 58 T58.1 := cert_of T58.2 Tryz.func58
-- suffrage/ranked.Count
noncomputable def T59 : { F : AFunc // CT.func [[0, 7], [1, 19, 20, 21, 22], [23], [2, 3, 8, 24, 25, 26], [8, 10, 24, 27, 28, 29, 30, 31], [9, 12, 32, 33, 34, 35, 36, 37, 38, 39], [3, 40, 41, 42, 43, 44, 45], [], [], [49, 50, 51, 52], [15, 53, 54, 55, 56, 57], [58, 59, 60, 61, 62, 63, 64, 65], [16, 58, 66, 67, 68], [69], [2, 11, 46, 47, 48, 49, 70, 71], [14, 72, 73, 74], [75, 76, 77, 78, 79, 80], [13, 18, 81, 82, 83, 84, 85, 86, 87, 88, 89, 90, 91], [17, 92, 93, 94, 95]] Tryz.f59 = some F } := FN _ Tryz.f59 96 3 [.cell 6 3 false, .t 7] (PC.seq ⟨_, by conv => lhs; cbv⟩ (PC.seq ⟨_, by conv => lhs; cbv⟩ (PC.seq ⟨_, by conv => lhs; cbv⟩ ⟨_, by conv => lhs; cbv⟩)))
theorem c59 : Cert 59 T59.1 := cert_of T59.2 Tryz.func59
-- suffrage/runoff.Count
noncomputable def T60 : { F : AFunc // CT.func [[0, 7], [1, 10, 11, 12, 13], [14], [2, 3, 8, 15, 16, 17], [2, 3, 8, 15, 18, 19, 20, 21, 22, 23, 24, 25], [26, 27], [9, 28, 29, 30, 31, 32, 33, 34, 35]] Tryz.f60 = some F } := by
  refine ⟨?F, ?h⟩
  case h =>
    conv => lhs; cbv
theorem c60 : Cert 60 T60.1 := cert_of T60.2 Tryz.func60
-- suffrage/coombs.Count
noncomputable def T61 : { F : AFunc // CT.func [[0, 7], [1, 9, 10, 11, 12], [13], [2, 3, 8, 14, 15, 16], [2, 3, 8, 14, 17, 18, 19, 20, 21, 22]] Tryz.f61 = some F } := by
  refine ⟨?F, ?h⟩
  case h =>
    conv => lhs; cbv
theorem c61 : Cert 61 T61.1 := cert_of T61.2 Tryz.func61
-- suffrage/gregory.Count
noncomputable def T62 : { F : AFunc // CT.func [[0, 7], [14, 15, 16, 17, 18, 19], [20], [1, 2, 3, 8, 21, 22, 23], [8, 10, 21, 24, 25, 26, 27, 28, 29], [2, 9, 30, 31, 32, 33, 34, 35, 36], [37, 38, 39, 40, 41, 42, 43, 44], [45], [], [49, 50, 51], [13, 52, 53, 54, 55, 56, 57, 58, 59, 60, 61, 62, 63, 64, 65], [66], [3, 46, 47, 48, 49, 67], [], [70, 71, 72, 73, 74, 75, 76, 77, 78, 79, 80, 81], [82], [68, 69, 70, 83, 84, 85, 86, 87, 88, 89, 90, 91, 92], [93, 94, 95], [1, 11, 93, 96, 97, 98, 99, 100, 101, 102]] Tryz.f62 = some F } := FN _ Tryz.f62 103 3 [.cell 6 3 false, .t 7] (PC.seq ⟨_, by conv => lhs; cbv⟩ (PC.seq ⟨_, by conv => lhs; cbv⟩ (PC.seq ⟨_, by conv => lhs; cbv⟩ (PC.seq ⟨_, by conv => lhs; cbv⟩ ⟨_, by conv => lhs; cbv⟩))))
theorem c62 : Cert 62 T62.1 := cert_of T62.2 Tryz.func62
-- suffrage/meek.Count
noncomputable def T63 : { F : AFunc // CT.func [[0, 7], [13, 14, 15, 16, 17, 18], [19], [1, 2, 3, 8, 20, 21, 22], [2, 8, 20, 23, 24, 25, 26, 27, 28, 29, 30, 31], [32, 33, 34, 35, 36, 37, 38, 39], [3, 40], [], [43, 44, 45, 46, 47, 48, 49, 50, 51, 52], [53], [41, 42, 43, 54], [55, 56, 57, 58, 59, 60, 61, 62, 63, 64], [65, 66, 67, 68, 69, 70, 71, 72], [73, 74, 75, 76, 77], [], [], [77, 78], [12, 79, 80], [81, 82], [75, 76, 81, 83, 84, 85, 86, 87, 88, 89, 90, 91, 92, 93, 94, 95, 96, 97, 98, 99, 100, 101, 102, 103], [104, 105, 106, 107, 108, 109, 110, 111, 112, 113, 114, 115, 116, 117, 118, 119, 120, 121, 122, 123, 124], [1, 9, 10, 65, 125, 126, 127, 128, 129, 130, 131]] Tryz.f63 = some F } := FN _ Tryz.f63 132 3 [.cell 6 3 false, .t 7] (PC.seq ⟨_, by conv => lhs; cbv⟩ (PC.seq ⟨_, by conv => lhs; cbv⟩ (PC.seq ⟨_, by conv => lhs; cbv⟩ (PC.seq ⟨_, by conv => lhs; cbv⟩ (PC.seq ⟨_, by conv => lhs; cbv⟩ (PC.seq ⟨_, by conv => lhs; cbv⟩ (PC.seq (PC.block 2 (PC.loop (PC.seq ⟨_, by conv => lhs; cbv⟩ ⟨_, by conv => lhs; cbv⟩))) ⟨_, by conv => lhs; cbv⟩)))))))
theorem c63 : Cert 63 T63.1 := cert_of T63.2 Tryz.func63
-- suffrage/phragmen.Count
noncomputable def T64 : { F : AFunc // CT.func [[0, 7], [17, 18, 19, 20, 21, 22], [23], [1, 2, 3, 8, 24, 25, 26], [2, 8, 24, 27, 28, 29, 30, 31, 32, 33, 34, 35], [13, 36, 37, 38, 39, 40], [15, 41, 42, 43, 44, 45], [3, 10, 11, 12, 14, 46], [1], [], [49, 50, 51, 52, 53, 54, 55, 56, 57, 58, 59, 60, 61, 62], [63], [9, 16, 47, 48, 49, 64, 65, 66, 67]] Tryz.f64 = some F } := by
  refine ⟨?F, ?h⟩
  case h =>
    conv => lhs; cbv
theorem c64 : Cert 64 T64.1 := cert_of T64.2 Tryz.func64
-- suffrage/lists.DHondt
noncomputable def T65 : { F : AFunc // CT.func [[0, 7], [1, 2, 3, 8, 9, 10, 11, 12, 13, 14, 15]] Tryz.f65 = some F } := by
  refine ⟨?F, ?h⟩
  case h =>
    conv => lhs; cbv
theorem c65 : Cert 65 T65.1 := cert_of T65.2 Tryz.func65
-- suffrage/lists.Sainte
noncomputable def T66 : { F : AFunc // CT.func [[0, 7], [1, 2, 3, 8, 9, 10, 11, 12, 13, 14, 15]] Tryz.f66 = some F } := by
  refine ⟨?F, ?h⟩
  case h =>
    conv => lhs; cbv
theorem c66 : Cert 66 T66.1 := cert_of T66.2 Tryz.func66
-- suffrage/lists.Hare
noncomputable def T67 : { F : AFunc // CT.func [[0, 7], [1, 2, 3, 8, 9, 10, 11, 12, 13]] Tryz.f67 = some F } := by
  refine ⟨?F, ?h⟩
  case h =>
    conv => lhs; cbv
theorem c67 : Cert 67 T67.1 := cert_of T67.2 Tryz.func67
-- slices.Collect[int]
noncomputable def T68 : { F : AFunc // CT.func [[2], [0, 3, 4]] Tryz.f68 = some F } := by
  refine ⟨?F, ?h⟩
  case h =>
    conv => lhs; cbv
theorem c68 : Cert 68 T68.1 := cert_of T68.2 Tryz.func68
-- slices.Values[[]int,int]$1
noncomputable def T69 : { F : AFunc // CT.func [[1], [], [8, 9, 10], [4, 11, 12, 13], [14, 15]] Tryz.f69 = some F } := by
  refine ⟨?F, ?h⟩
  case h =>
    conv => lhs; cbv
theorem c69 : Cert 69 T69.1 := cert_of T69.2 Tryz.func69
-- slices.IndexFunc[[]int,int]
noncomputable def T70 : { F : AFunc // CT.func [[4], [6], [], [9, 10], [11, 12, 13, 14, 15], [0, 1, 5, 7, 8, 16, 17], [5, 16, 18], [0, 1, 7, 8, 9]] Tryz.f70 = some F } := by
  refine ⟨?F, ?h⟩
  case h =>
    conv => lhs; cbv
theorem c70 : Cert 70 T70.1 := cert_of T70.2 Tryz.func70
-- slices.Clone[[]uint32,uint32]
noncomputable def T71 : { F : AFunc // CT.func [[2], [3], [0, 4], [0, 4, 5, 6, 7]] Tryz.f71 = some F } := by
  refine ⟨?F, ?h⟩
  case h =>
    conv => lhs; cbv
theorem c71 : Cert 71 T71.1 := cert_of T71.2 Tryz.func71
-- slices.insertionSortOrdered[int]
noncomputable def T72 : { F : AFunc // CT.func [[8, 9], [10, 11], [7, 13, 14, 30], [12, 15], [16, 17, 18, 19, 20, 21, 22, 23, 24, 25, 26, 27, 28, 29], [31, 32], [30, 33, 34, 35, 36, 37, 38, 39, 40, 41, 42, 43, 44, 45, 46, 47, 48]] Tryz.f72 = some F } := by
  refine ⟨?F, ?h⟩
  case h =>
    conv => lhs; cbv
theorem c72 : Cert 72 T72.1 := cert_of T72.2 Tryz.func72
-- slices.heapSortOrdered[int]
noncomputable def T73 : { F : AFunc // CT.func [[11], [], [1, 2, 12, 13, 14], [15, 16, 17], [18], [20, 21], [19, 22, 23, 24, 25, 26], [8, 9, 19, 27, 28], [29], [31, 32], [30, 33, 34, 35, 36, 37, 38, 39, 40, 41, 42, 43, 44, 45, 46, 47, 48, 49, 50], [51, 52, 53, 54, 55]] Tryz.f73 = some F } := by
  refine ⟨?F, ?h⟩
  case h =>
    conv => lhs; cbv
theorem c73 : Cert 73 T73.1 := cert_of T73.2 Tryz.func73
-- slices.breakPatternsOrdered[int]
noncomputable def T74 : { F : AFunc // CT.func [[2, 11, 12, 13], [14], [15, 16, 17], [18, 19], [20, 21, 22, 23, 24, 25], [26, 27, 28, 29, 30, 31, 32], [34, 35], [33, 36, 37, 38, 39, 40], [41, 42], [43, 44, 45, 46], [10, 43, 47, 48, 49, 50, 51, 52, 53, 54, 55, 56, 57, 58, 59, 60, 61, 62, 63, 64]] Tryz.f74 = some F } := by
  refine ⟨?F, ?h⟩
  case h =>
    conv => lhs; cbv
theorem c74 : Cert 74 T74.1 := cert_of T74.2 Tryz.func74
-- slices.choosePivotOrdered[int]
noncomputable def T75 : { F : AFunc // CT.func [[6, 7], [2, 13, 14, 15], [], [16, 17, 18, 19, 20], [21, 22, 23, 24, 25], [1, 26, 27, 28, 29, 30], [31], [8, 32, 33], [34, 35, 36, 37], [38, 39, 40], [41, 42, 43], [0, 10, 12, 34, 44, 45, 46, 47, 48], [0, 8, 9, 10, 12, 32], [11, 50, 54], [52], [11, 49, 51, 53], [49, 51, 55], [11, 54, 56]] Tryz.f75 = some F } := by
  refine ⟨?F, ?h⟩
  case h =>
    conv => lhs; cbv
theorem c75 : Cert 75 T75.1 := cert_of T75.2 Tryz.func75
-- slices.reverseRangeOrdered[int]
noncomputable def T76 : { F : AFunc // CT.func [[1, 8], [2, 9, 10], [11, 12], [13, 14, 15, 16, 17, 18, 19, 20, 21, 22, 23, 24, 25, 26, 27], [28, 29], [30, 31]] Tryz.f76 = some F } := by
  refine ⟨?F, ?h⟩
  case h =>
    conv => lhs; cbv
theorem c76 : Cert 76 T76.1 := cert_of T76.2 Tryz.func76
-- slices.partialInsertionSortOrdered[int]
noncomputable def T77 : { F : AFunc // CT.func [[6], [11, 12], [], [13], [10, 15, 16, 98, 103, 116], [14, 17, 18, 19, 20, 21, 22, 23, 24, 25, 26, 27, 28, 29, 30, 31], [32, 33, 34], [32, 35, 36], [0, 1, 2, 7, 8, 37], [37, 38, 39, 40], [0, 1, 2, 7, 8, 41], [41, 42, 43, 44, 45, 46, 47, 48, 49, 50, 51, 52, 53, 54, 55, 56, 57], [58, 59, 60], [61, 62, 63], [64], [66, 67], [65, 68, 69, 70, 71, 72, 73, 74, 75, 76, 77], [78, 79, 80, 81, 82, 83, 84, 85, 86, 87, 88, 89, 90, 91, 92, 93, 94], [9, 61, 65, 78, 95, 96, 97], [98, 99, 100], [101, 102], [104, 105], [103, 106, 107, 108, 109, 110, 111, 112, 113, 114, 115], [116, 117, 118, 119, 120, 121, 122, 123, 124, 125, 126, 127, 128, 129, 130, 131, 132], [0, 1, 2, 7, 8, 14]] Tryz.f77 = some F } := FN _ Tryz.f77 133 3 [.t 6] (PC.seq ⟨_, by conv => lhs; cbv⟩ (PC.seq ⟨_, by conv => lhs; cbv⟩ (PC.seq (PC.seq ⟨_, by conv => lhs; cbv⟩ (PC.block 0 (PC.loop (PC.seq ⟨_, by conv => lhs; cbv⟩ (PC.seq (PC.block 1 (PC.seq ⟨_, by conv => lhs; cbv⟩ (PC.seq ⟨_, by conv => lhs; cbv⟩ (PC.seq ⟨_, by conv => lhs; cbv⟩ (PC.seq ⟨_, by conv => lhs; cbv⟩ (PC.seq ⟨_, by conv => lhs; cbv⟩ ⟨_, by conv => lhs; cbv⟩)))))) ⟨_, by conv => lhs; cbv⟩))))) ⟨_, by conv => lhs; cbv⟩)))
theorem c77 : Cert 77 T77.1 := cert_of T77.2 Tryz.func77
-- cmp.Less[int]
noncomputable def T78 : { F : AFunc // CT.func [[4], [0, 1, 5, 6, 7, 8, 9, 10, 11, 12, 13, 14, 15, 16]] Tryz.f78 = some F } := by
  refine ⟨?F, ?h⟩
  case h =>
    conv => lhs; cbv
theorem c78 : Cert 78 T78.1 := cert_of T78.2 Tryz.func78
-- slices.partitionEqualOrdered[int]
noncomputable def T79 : { F : AFunc // CT.func [[8], [3, 11, 12, 13, 14, 15, 16, 17, 18, 19, 20, 21, 22, 23, 24], [2, 25, 26, 27, 28], [29, 30, 31, 32, 33, 34, 35, 36, 37, 38, 39, 40, 41, 42], [43, 44, 45], [43, 46, 47, 48, 49, 50, 51, 52, 53, 54, 55, 56, 57, 58], [59, 60, 61], [59, 62, 63], [64, 65, 66, 67, 68, 69, 70, 71, 72, 73, 74, 75, 76, 77, 78], [79, 80], [81, 82], [0, 1, 9, 10, 64, 83]] Tryz.f79 = some F } := by
  refine ⟨?F, ?h⟩
  case h =>
    conv => lhs; cbv
theorem c79 : Cert 79 T79.1 := cert_of T79.2 Tryz.func79
-- slices.partitionOrdered[int]
noncomputable def T80 : { F : AFunc // CT.func [[8, 9], [3, 12, 13, 14, 15, 16, 17, 18, 19, 20, 21, 22, 23, 24, 25], [2, 26, 27, 28, 29], [30, 31, 32, 33, 34, 35, 36, 37, 38, 39, 40, 41, 42], [43, 44, 45], [43, 46, 47, 48, 49, 50, 51, 52, 53, 54, 55, 56, 57, 58, 59], [60, 61, 62], [60, 63, 64], [0, 1, 10, 65, 66, 67, 68, 69, 70, 71, 72, 73, 74, 75, 76, 77, 78, 79], [11, 80], [65, 81, 82, 83, 84, 85, 86, 87, 88, 89, 90, 91, 92, 93, 94], [95, 96], [97, 98], [99, 100, 101, 102, 103, 104, 105, 106, 107, 108, 109, 110, 111], [112, 113, 114], [112, 115, 116, 117, 118, 119, 120, 121, 122, 123, 124, 125, 126, 127, 128], [129, 130, 131], [129, 132, 133], [134, 135, 136, 137, 138, 139, 140, 141, 142, 143, 144, 145, 146, 147, 148], [149, 150], [151, 152], [0, 1, 10, 134, 153, 154, 155, 156, 157, 158, 159, 160, 161, 162, 163, 164, 165, 166], [11, 167]] Tryz.f80 = some F } := FN _ Tryz.f80 168 4 [.t 8, .t 9] (PC.seq ⟨_, by conv => lhs; cbv⟩ (PC.seq ⟨_, by conv => lhs; cbv⟩ (PC.seq ⟨_, by conv => lhs; cbv⟩ (PC.seq ⟨_, by conv => lhs; cbv⟩ (PC.seq ⟨_, by conv => lhs; cbv⟩ (PC.seq ⟨_, by conv => lhs; cbv⟩ (PC.seq ⟨_, by conv => lhs; cbv⟩ (PC.seq ⟨_, by conv => lhs; cbv⟩ (PC.seq ⟨_, by conv => lhs; cbv⟩ (PC.seq ⟨_, by conv => lhs; cbv⟩ ⟨_, by conv => lhs; cbv⟩))))))))))
theorem c80 : Cert 80 T80.1 := cert_of T80.2 Tryz.func80
-- math/bits.Len32
noncomputable def T81 : { F : AFunc // CT.func [[], [3], [2, 4, 5, 6], [], [4, 7], [8, 9, 10], [11, 12], [0, 8, 13, 14, 15, 16, 17, 18]] Tryz.f81 = some F } := by
  refine ⟨?F, ?h⟩
  case h =>
    conv => lhs; cbv
theorem c81 : Cert 81 T81.1 := cert_of T81.2 Tryz.func81
-- math/bits.Len64
noncomputable def T82 : { F : AFunc // CT.func [[], [3], [2, 4, 5, 6], [], [4, 7], [8, 9, 10], [11, 12], [8, 13], [14, 15, 16], [17, 18], [0, 14, 19, 20, 21, 22, 23, 24]] Tryz.f82 = some F } := by
  refine ⟨?F, ?h⟩
  case h =>
    conv => lhs; cbv
theorem c82 : Cert 82 T82.1 := cert_of T82.2 Tryz.func82
-- slices.Equal[[]uint32,uint32]
noncomputable def T83 : { F : AFunc // CT.func [[4], [6, 7, 8, 9], [0, 1, 10], [10, 11], [], [14, 15], [5, 16, 17, 18, 19, 20, 21, 22, 23], [0, 1, 12, 13, 24], [24, 25], [0, 1, 12, 13, 14]] Tryz.f83 = some F } := by
  refine ⟨?F, ?h⟩
  case h =>
    conv => lhs; cbv
theorem c83 : Cert 83 T83.1 := cert_of T83.2 Tryz.func83
-- slices.ContainsFunc[[]string,string]
noncomputable def T84 : { F : AFunc // CT.func [[4], [0, 1, 5, 6, 7, 8]] Tryz.f84 = some F } := by
  refine ⟨?F, ?h⟩
  case h =>
    conv => lhs; cbv
theorem c84 : Cert 84 T84.1 := cert_of T84.2 Tryz.func84
-- suffrage/contest.odd$1
noncomputable def T85 : { F : AFunc // CT.func [[2], [], [0, 3, 4, 5, 6, 7, 8, 9, 10, 11, 12, 13, 14, 15, 16]] Tryz.f85 = some F } := by
  refine ⟨?F, ?h⟩
  case h =>
    conv => lhs; cbv
theorem c85 : Cert 85 T85.1 := cert_of T85.2 Tryz.func85
-- suffrage/contest.odd$1$1
noncomputable def T86 : { F : AFunc // CT.func [[2], [0, 3, 4, 5, 6, 7, 8]] Tryz.f86 = some F } := by
  refine ⟨?F, ?h⟩
  case h =>
    conv => lhs; cbv
theorem c86 : Cert 86 T86.1 := cert_of T86.2 Tryz.func86
-- slices.ContainsFunc[[]byte,byte]
noncomputable def T87 : { F : AFunc // CT.func [[4], [0, 1, 5, 6, 7, 8]] Tryz.f87 = some F } := by
  refine ⟨?F, ?h⟩
  case h =>
    conv => lhs; cbv
theorem c87 : Cert 87 T87.1 := cert_of T87.2 Tryz.func87
-- slices.Contains[[]string,string]
noncomputable def T88 : { F : AFunc // CT.func [[4], [0, 1, 5, 6, 7, 8]] Tryz.f88 = some F } := by
  refine ⟨?F, ?h⟩
  case h =>
    conv => lhs; cbv
theorem c88 : Cert 88 T88.1 := cert_of T88.2 Tryz.func88
-- cmp.Compare[int]
noncomputable def T89 : { F : AFunc // CT.func [[4], [7, 8], [9, 10], [5], [0, 1, 6, 11], [12], [12], [6, 11], [0, 1, 13], [13, 14, 15], [0, 1, 16], [0, 1, 16, 17, 18], [19], [19]] Tryz.f89 = some F } := by
  refine ⟨?F, ?h⟩
  case h =>
    conv => lhs; cbv
theorem c89 : Cert 89 T89.1 := cert_of T89.2 Tryz.func89
-- suffrage/ballot.within
noncomputable def T90 : { F : AFunc // CT.func [[6], [0, 1, 2, 7, 8, 9, 10, 11, 12, 13, 14]] Tryz.f90 = some F } := by
  refine ⟨?F, ?h⟩
  case h =>
    conv => lhs; cbv
theorem c90 : Cert 90 T90.1 := cert_of T90.2 Tryz.func90
-- suffrage/ballot.fine
noncomputable def T91 : { F : AFunc // CT.func [[0, 4], [10], [], [14, 15, 16], [6, 17, 18, 19, 20, 21, 22, 23, 24, 25, 26, 27, 28, 29, 30, 31, 32, 33, 34], [1, 2, 11, 12, 13, 35], [35, 36], [11, 12, 13, 14, 37], [40], [1, 39, 42], [38, 41, 44], [1, 2, 38, 39, 45, 46, 47, 48, 49], [38, 41, 50, 51, 52], [2, 53], [43, 53], [2, 54], [], [58, 59, 60], [61, 62], [7, 9, 55, 56, 57, 63], [9, 63, 64, 65], [66], [7, 55, 56, 57, 58], [2, 43]] Tryz.f91 = some F } := by
  refine ⟨?F, ?h⟩
  case h =>
    conv => lhs; cbv
theorem c91 : Cert 91 T91.1 := cert_of T91.2 Tryz.func91
-- suffrage/contest.rules
noncomputable def T92 : { F : AFunc // CT.func [[], [1, 2, 3, 4, 5, 6, 7, 8, 9, 10, 11, 12, 13, 14, 15, 16, 17]] Tryz.f92 = some F } := by
  refine ⟨?F, ?h⟩
  case h =>
    conv => lhs; cbv
theorem c92 : Cert 92 T92.1 := cert_of T92.2 Tryz.func92
-- suffrage/single.marked
noncomputable def T93 : { F : AFunc // CT.func [[1, 4], [8], [0], [], [12, 13, 14], [7, 15, 16], [17], [5, 9, 10, 11, 12, 18]] Tryz.f93 = some F } := by
  refine ⟨?F, ?h⟩
  case h =>
    conv => lhs; cbv
theorem c93 : Cert 93 T93.1 := cert_of T93.2 Tryz.func93
-- suffrage/single.alone
noncomputable def T94 : { F : AFunc // CT.func [[2], [0, 3, 4, 5]] Tryz.f94 = some F } := by
  refine ⟨?F, ?h⟩
  case h =>
    conv => lhs; cbv
theorem c94 : Cert 94 T94.1 := cert_of T94.2 Tryz.func94
-- (suffrage/single.rule).count
noncomputable def T95 : { F : AFunc // CT.func [[0, 1, 9], [17, 18, 19, 20, 21, 22, 23, 24], [25], [2, 3, 4, 5, 10, 26, 27, 28], [10, 26, 29, 30, 31], [32], [], [36, 37, 38], [39, 40, 41, 42], [14, 43, 44, 45, 46, 47], [43, 48, 49, 50, 51, 52, 53, 54], [56], [57, 58, 59, 60], [15, 16, 61, 62, 63, 64, 65, 66, 67, 68, 69, 70], [14, 55, 57, 71], [2, 3, 4, 5, 11, 12, 33, 34, 35, 36, 72, 73, 74, 75, 76, 77]] Tryz.f95 = some F } := by
  refine ⟨?F, ?h⟩
  case h =>
    conv => lhs; cbv
theorem c95 : Cert 95 T95.1 := cert_of T95.2 Tryz.func95
-- suffrage/single.never
noncomputable def T96 : { F : AFunc // CT.func [[0, 2], []] Tryz.f96 = some F } := by
  refine ⟨?F, ?h⟩
  case h =>
    conv => lhs; cbv
theorem c96 : Cert 96 T96.1 := cert_of T96.2 Tryz.func96
-- suffrage/single.scored
noncomputable def T97 : { F : AFunc // CT.func [[1, 4], [8], [0], [], [12, 13, 14, 15], [6, 7, 16, 17, 18], [19], [5, 9, 10, 11, 12, 20]] Tryz.f97 = some F } := by
  refine ⟨?F, ?h⟩
  case h =>
    conv => lhs; cbv
theorem c97 : Cert 97 T97.1 := cert_of T97.2 Tryz.func97
-- suffrage/single.ranked
noncomputable def T98 : { F : AFunc // CT.func [[4], [8], [0], [], [12, 13, 14, 15], [6, 7, 16, 17, 18, 19, 20, 21], [22], [1, 5, 9, 10, 11, 12, 23]] Tryz.f98 = some F } := by
  refine ⟨?F, ?h⟩
  case h =>
    conv => lhs; cbv
theorem c98 : Cert 98 T98.1 := cert_of T98.2 Tryz.func98
-- suffrage/condorcet.Copeland$1
noncomputable def T99 : { F : AFunc // CT.func [[0], [2, 8], [], [11, 12], [13, 14, 15, 16], [18, 19], [6, 7, 17, 20, 21], [6, 7, 17, 23, 24, 25, 26, 27, 28, 29], [22, 30, 31], [22, 32], [1, 3, 9, 10, 11, 33]] Tryz.f99 = some F } := by
  refine ⟨?F, ?h⟩
  case h =>
    conv => lhs; cbv
theorem c99 : Cert 99 T99.1 := cert_of T99.2 Tryz.func99
-- suffrage/pairs.Margin
noncomputable def T100 : { F : AFunc // CT.func [[0, 6], [7, 8, 9, 10, 11, 12, 13, 14, 15, 16, 17, 18], [1, 2, 3, 19], [1, 2, 3, 19, 20, 21, 22, 23, 24, 25, 26, 27, 28, 29, 30]] Tryz.f100 = some F } := by
  refine ⟨?F, ?h⟩
  case h =>
    conv => lhs; cbv
theorem c100 : Cert 100 T100.1 := cert_of T100.2 Tryz.func100
end Go.Proofs.YtkpfhnicdlgjiaaGreat
