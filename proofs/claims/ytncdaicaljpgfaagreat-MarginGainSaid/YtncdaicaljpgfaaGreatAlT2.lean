/- The functions in the abstract language, worked out by Lean. -/
import Derived.Test.YtncdaicaljpgfaaGreatAlPc
set_option linter.unusedVariables false
set_option maxHeartbeats 1000000
set_option maxRecDepth 100000
namespace Go.Proofs.YtncdaicaljpgfaaGreat
-- suffrage/condorcet.alone
noncomputable def T119 : { F : AFunc // CT.func [[0, 4, 5], [8, 9, 10], [1, 2, 11], [11], [], [14, 15], [], [], [18, 19], [7, 20, 21, 22, 23, 24, 25, 26, 27, 28, 29, 30, 31, 32, 33, 34], [35, 36], [1, 2, 6, 12, 13, 16, 17, 18, 37], [6, 16, 17, 35, 38], [1, 2, 12, 13, 14]] Tryz.f119 = some F } := by
  refine ⟨?F, ?h⟩
  case h =>
    conv => lhs; cbv
theorem c119 : Cert 119 T119.1 := cert_of T119.2 Tryz.func119
-- suffrage/pairs.within
noncomputable def T120 : { F : AFunc // CT.func [[4], [0, 1, 5, 6, 7, 8, 9, 10, 11]] Tryz.f120 = some F } := by
  refine ⟨?F, ?h⟩
  case h =>
    conv => lhs; cbv
theorem c120 : Cert 120 T120.1 := cert_of T120.2 Tryz.func120
-- suffrage/pairs.Right
noncomputable def T121 : { F : AFunc // CT.func [[0, 4], [10, 11, 12, 13, 14], [1, 2, 15], [15, 16], [], [], [19, 20, 21], [7], [], [24, 25, 26], [9, 27, 28, 29, 30, 31, 32, 33, 34, 35, 36, 37, 38, 39], [1, 2, 5, 6, 8, 17, 18, 22, 23, 40], [40, 41, 42, 43, 44, 45, 46, 47, 48, 49, 50, 51, 52, 53, 54], [8, 55, 56, 57, 58, 59], [8, 55, 60], [6, 22, 23, 24, 61], [1, 2, 5, 17, 18, 19, 62, 63, 64]] Tryz.f121 = some F } := by
  refine ⟨?F, ?h⟩
  case h =>
    conv => lhs; cbv
theorem c121 : Cert 121 T121.1 := cert_of T121.2 Tryz.func121
-- cmp.Less[int]
noncomputable def T122 : { F : AFunc // CT.func [[4], [0, 1, 5, 6, 7, 8, 9, 10, 11, 12, 13, 14, 15, 16]] Tryz.f122 = some F } := by
  refine ⟨?F, ?h⟩
  case h =>
    conv => lhs; cbv
theorem c122 : Cert 122 T122.1 := cert_of T122.2 Tryz.func122
-- slices.insertionSortCmpFunc[suffrage/margin.share]
noncomputable def T123 : { F : AFunc // CT.func [[10, 11], [12, 13], [9, 15, 16, 34], [14, 17], [18, 19, 20, 21, 22, 23, 24, 25, 26, 27, 28, 29, 30, 31, 32, 33], [35, 36], [34, 37, 38, 39, 40, 41, 42, 43, 44, 45, 46, 47, 48, 49, 50, 51, 52]] Tryz.f123 = some F } := by
  refine ⟨?F, ?h⟩
  case h =>
    conv => lhs; cbv
theorem c123 : Cert 123 T123.1 := cert_of T123.2 Tryz.func123
-- slices.heapSortCmpFunc[suffrage/margin.share]
noncomputable def T124 : { F : AFunc // CT.func [[13], [], [1, 2, 14, 15, 16], [17, 18, 19], [20], [22, 23], [21, 24, 25, 26, 27, 28, 29], [10, 11, 21, 30, 31], [32], [34, 35], [33, 36, 37, 38, 39, 40, 41, 42, 43, 44, 45, 46, 47, 48, 49, 50, 51, 52, 53], [54, 55, 56, 57, 58, 59]] Tryz.f124 = some F } := by
  refine ⟨?F, ?h⟩
  case h =>
    conv => lhs; cbv
theorem c124 : Cert 124 T124.1 := cert_of T124.2 Tryz.func124
-- slices.breakPatternsCmpFunc[suffrage/margin.share]
noncomputable def T125 : { F : AFunc // CT.func [[2, 3, 13, 14, 15], [16], [17, 18, 19], [20, 21], [22, 23, 24, 25, 26, 27], [28, 29, 30, 31, 32, 33, 34], [36, 37], [35, 38, 39, 40, 41, 42], [43, 44], [45, 46, 47, 48], [12, 45, 49, 50, 51, 52, 53, 54, 55, 56, 57, 58, 59, 60, 61, 62, 63, 64, 65, 66]] Tryz.f125 = some F } := by
  refine ⟨?F, ?h⟩
  case h =>
    conv => lhs; cbv
theorem c125 : Cert 125 T125.1 := cert_of T125.2 Tryz.func125
-- slices.choosePivotCmpFunc[suffrage/margin.share]
noncomputable def T126 : { F : AFunc // CT.func [[8, 9], [2, 15, 16, 17], [], [18, 19, 20, 21, 22], [23, 24, 25, 26, 27], [1, 28, 29, 30, 31, 32], [33], [10, 34, 35], [36, 37, 38, 39, 40], [41, 42, 43, 44], [45, 46, 47, 48], [0, 3, 12, 14, 36, 49, 50, 51, 52, 53, 54], [0, 3, 10, 11, 12, 14, 34], [13, 56, 60], [58], [13, 55, 57, 59], [55, 57, 61], [13, 60, 62]] Tryz.f126 = some F } := by
  refine ⟨?F, ?h⟩
  case h =>
    conv => lhs; cbv
theorem c126 : Cert 126 T126.1 := cert_of T126.2 Tryz.func126
-- slices.reverseRangeCmpFunc[suffrage/margin.share]
noncomputable def T127 : { F : AFunc // CT.func [[1, 3, 10], [2, 11, 12], [13, 14], [15, 16, 17, 18, 19, 20, 21, 22, 23, 24, 25, 26, 27, 28, 29], [30, 31], [32, 33]] Tryz.f127 = some F } := by
  refine ⟨?F, ?h⟩
  case h =>
    conv => lhs; cbv
theorem c127 : Cert 127 T127.1 := cert_of T127.2 Tryz.func127
-- slices.partialInsertionSortCmpFunc[suffrage/margin.share]
noncomputable def T128 : { F : AFunc // CT.func [[8], [13, 14], [], [15], [12, 17, 18, 104, 109, 124], [16, 19, 20, 21, 22, 23, 24, 25, 26, 27, 28, 29, 30, 31, 32, 33, 34, 35], [36, 37, 38], [36, 39, 40], [0, 1, 2, 3, 9, 10, 41], [41, 42, 43, 44], [0, 1, 2, 3, 9, 10, 45], [45, 46, 47, 48, 49, 50, 51, 52, 53, 54, 55, 56, 57, 58, 59, 60, 61], [62, 63, 64], [65, 66, 67], [68], [70, 71], [69, 72, 73, 74, 75, 76, 77, 78, 79, 80, 81, 82, 83], [84, 85, 86, 87, 88, 89, 90, 91, 92, 93, 94, 95, 96, 97, 98, 99, 100], [11, 65, 69, 84, 101, 102, 103], [104, 105, 106], [107, 108], [110, 111], [109, 112, 113, 114, 115, 116, 117, 118, 119, 120, 121, 122, 123], [124, 125, 126, 127, 128, 129, 130, 131, 132, 133, 134, 135, 136, 137, 138, 139, 140], [0, 1, 2, 3, 9, 10, 16]] Tryz.f128 = some F } := FN _ Tryz.f128 141 4 [.t 8] (PC.seq ⟨_, by conv => lhs; cbv⟩ (PC.seq ⟨_, by conv => lhs; cbv⟩ (PC.seq (PC.seq ⟨_, by conv => lhs; cbv⟩ (PC.block 0 (PC.loop (PC.seq ⟨_, by conv => lhs; cbv⟩ (PC.seq (PC.block 1 (PC.seq ⟨_, by conv => lhs; cbv⟩ (PC.seq ⟨_, by conv => lhs; cbv⟩ (PC.seq ⟨_, by conv => lhs; cbv⟩ (PC.seq ⟨_, by conv => lhs; cbv⟩ (PC.seq ⟨_, by conv => lhs; cbv⟩ ⟨_, by conv => lhs; cbv⟩)))))) ⟨_, by conv => lhs; cbv⟩))))) ⟨_, by conv => lhs; cbv⟩)))
theorem c128 : Cert 128 T128.1 := cert_of T128.2 Tryz.func128
-- slices.partitionEqualCmpFunc[suffrage/margin.share]
noncomputable def T129 : { F : AFunc // CT.func [[10], [3, 13, 14, 15, 16, 17, 18, 19, 20, 21, 22, 23, 24, 25, 26], [2, 27, 28, 29, 30], [31, 32, 33, 34, 35, 36, 37, 38, 39, 40, 41, 42, 43, 44, 45, 46], [47, 48, 49], [47, 50, 51, 52, 53, 54, 55, 56, 57, 58, 59, 60, 61, 62, 63, 64], [65, 66, 67], [65, 68, 69], [70, 71, 72, 73, 74, 75, 76, 77, 78, 79, 80, 81, 82, 83, 84], [85, 86], [87, 88], [0, 1, 4, 11, 12, 70, 89]] Tryz.f129 = some F } := by
  refine ⟨?F, ?h⟩
  case h =>
    conv => lhs; cbv
theorem c129 : Cert 129 T129.1 := cert_of T129.2 Tryz.func129
-- slices.partitionCmpFunc[suffrage/margin.share]
noncomputable def T130 : { F : AFunc // CT.func [[10, 11], [3, 14, 15, 16, 17, 18, 19, 20, 21, 22, 23, 24, 25, 26, 27], [2, 28, 29, 30, 31], [32, 33, 34, 35, 36, 37, 38, 39, 40, 41, 42, 43, 44, 45, 46], [47, 48, 49], [47, 50, 51, 52, 53, 54, 55, 56, 57, 58, 59, 60, 61, 62, 63, 64, 65], [66, 67, 68], [66, 69, 70], [0, 1, 4, 12, 71, 72, 73, 74, 75, 76, 77, 78, 79, 80, 81, 82, 83, 84, 85], [13, 86], [71, 87, 88, 89, 90, 91, 92, 93, 94, 95, 96, 97, 98, 99, 100], [101, 102], [103, 104], [105, 106, 107, 108, 109, 110, 111, 112, 113, 114, 115, 116, 117, 118, 119], [120, 121, 122], [120, 123, 124, 125, 126, 127, 128, 129, 130, 131, 132, 133, 134, 135, 136, 137, 138], [139, 140, 141], [139, 142, 143], [144, 145, 146, 147, 148, 149, 150, 151, 152, 153, 154, 155, 156, 157, 158], [159, 160], [161, 162], [0, 1, 4, 12, 144, 163, 164, 165, 166, 167, 168, 169, 170, 171, 172, 173, 174, 175, 176], [13, 177]] Tryz.f130 = some F } := FN _ Tryz.f130 178 5 [.t 10, .t 11] (PC.seq ⟨_, by conv => lhs; cbv⟩ (PC.seq ⟨_, by conv => lhs; cbv⟩ (PC.seq ⟨_, by conv => lhs; cbv⟩ (PC.seq ⟨_, by conv => lhs; cbv⟩ (PC.seq ⟨_, by conv => lhs; cbv⟩ (PC.seq ⟨_, by conv => lhs; cbv⟩ (PC.seq ⟨_, by conv => lhs; cbv⟩ (PC.seq ⟨_, by conv => lhs; cbv⟩ (PC.seq ⟨_, by conv => lhs; cbv⟩ (PC.seq (PC.block 4 (PC.loop (PC.block 5 (PC.seq ⟨_, by conv => lhs; cbv⟩ ⟨_, by conv => lhs; cbv⟩)))) ⟨_, by conv => lhs; cbv⟩))))))))))
theorem c130 : Cert 130 T130.1 := cert_of T130.2 Tryz.func130
-- math/bits.Len32
noncomputable def T131 : { F : AFunc // CT.func [[], [3], [2, 4, 5, 6], [], [4, 7], [8, 9, 10], [11, 12], [0, 8, 13, 14, 15, 16, 17, 18]] Tryz.f131 = some F } := by
  refine ⟨?F, ?h⟩
  case h =>
    conv => lhs; cbv
theorem c131 : Cert 131 T131.1 := cert_of T131.2 Tryz.func131
-- math/bits.Len64
noncomputable def T132 : { F : AFunc // CT.func [[], [3], [2, 4, 5, 6], [], [4, 7], [8, 9, 10], [11, 12], [8, 13], [14, 15, 16], [17, 18], [0, 14, 19, 20, 21, 22, 23, 24]] Tryz.f132 = some F } := by
  refine ⟨?F, ?h⟩
  case h =>
    conv => lhs; cbv
theorem c132 : Cert 132 T132.1 := cert_of T132.2 Tryz.func132
-- suffrage/choose.Lot
noncomputable def T133 : { F : AFunc // CT.func [[4], [0, 8, 9, 10], [], [], [14, 15, 16, 17], [6, 7, 18, 19], [1, 5, 11, 12, 13, 20], [20, 21], [1, 5, 11, 12, 13, 14, 22, 23, 24, 25]] Tryz.f133 = some F } := by
  refine ⟨?F, ?h⟩
  case h =>
    conv => lhs; cbv
theorem c133 : Cert 133 T133.1 := cert_of T133.2 Tryz.func133
-- slices.Clone[[]int,int]
noncomputable def T134 : { F : AFunc // CT.func [[2], [3], [0, 4], [0, 4, 5, 6, 7]] Tryz.f134 = some F } := by
  refine ⟨?F, ?h⟩
  case h =>
    conv => lhs; cbv
theorem c134 : Cert 134 T134.1 := cert_of T134.2 Tryz.func134
-- (*suffrage/choose.Count).Seats
noncomputable def T135 : { F : AFunc // CT.func [[1], [9, 10, 11], [2], [], [14, 15, 16, 17, 18, 19], [20, 21, 22, 23], [8, 24, 25, 26], [27], [0, 4, 7, 12, 13, 14, 28]] Tryz.f135 = some F } := by
  refine ⟨?F, ?h⟩
  case h =>
    conv => lhs; cbv
theorem c135 : Cert 135 T135.1 := cert_of T135.2 Tryz.func135
-- suffrage/choose.Wholes
noncomputable def T136 : { F : AFunc // CT.func [[], [0], [], [8, 9, 10], [4, 11, 12, 13, 14, 15], [16], [5, 6, 7, 8, 17]] Tryz.f136 = some F } := by
  refine ⟨?F, ?h⟩
  case h =>
    conv => lhs; cbv
theorem c136 : Cert 136 T136.1 := cert_of T136.2 Tryz.func136
-- suffrage/ratio.Whole
noncomputable def T137 : { F : AFunc // CT.func [[], [0, 3, 4, 5, 6, 7, 8, 9]] Tryz.f137 = some F } := by
  refine ⟨?F, ?h⟩
  case h =>
    conv => lhs; cbv
theorem c137 : Cert 137 T137.1 := cert_of T137.2 Tryz.func137
-- suffrage/suffrageref03.half
noncomputable def T138 : { F : AFunc // CT.func [[2], [5, 6, 7], [], [8, 9, 10], [12, 13], [11, 14, 15, 16, 17, 18, 19, 20, 21, 22, 23, 24, 25, 26, 27, 28, 29, 30], [0, 3, 4, 11, 31, 32]] Tryz.f138 = some F } := by
  refine ⟨?F, ?h⟩
  case h =>
    conv => lhs; cbv
theorem c138 : Cert 138 T138.1 := cert_of T138.2 Tryz.func138
-- suffrage/suffrageref03.at
noncomputable def T139 : { F : AFunc // CT.func [[4], [5, 6, 7], [0, 1, 8], [0, 1, 8, 9, 10, 11, 12, 13]] Tryz.f139 = some F } := by
  refine ⟨?F, ?h⟩
  case h =>
    conv => lhs; cbv
theorem c139 : Cert 139 T139.1 := cert_of T139.2 Tryz.func139
-- slices.ContainsFunc[[]string,string]
noncomputable def T140 : { F : AFunc // CT.func [[4], [0, 1, 5, 6, 7, 8]] Tryz.f140 = some F } := by
  refine ⟨?F, ?h⟩
  case h =>
    conv => lhs; cbv
theorem c140 : Cert 140 T140.1 := cert_of T140.2 Tryz.func140
-- suffrage/contest.odd$1
noncomputable def T141 : { F : AFunc // CT.func [[2], [], [0, 3, 4, 5, 6, 7, 8, 9, 10, 11, 12, 13, 14, 15, 16]] Tryz.f141 = some F } := by
  refine ⟨?F, ?h⟩
  case h =>
    conv => lhs; cbv
theorem c141 : Cert 141 T141.1 := cert_of T141.2 Tryz.func141
-- suffrage/contest.odd$1$1
noncomputable def T142 : { F : AFunc // CT.func [[2], [0, 3, 4, 5, 6, 7, 8]] Tryz.f142 = some F } := by
  refine ⟨?F, ?h⟩
  case h =>
    conv => lhs; cbv
theorem c142 : Cert 142 T142.1 := cert_of T142.2 Tryz.func142
-- slices.ContainsFunc[[]byte,byte]
noncomputable def T143 : { F : AFunc // CT.func [[4], [0, 1, 5, 6, 7, 8]] Tryz.f143 = some F } := by
  refine ⟨?F, ?h⟩
  case h =>
    conv => lhs; cbv
theorem c143 : Cert 143 T143.1 := cert_of T143.2 Tryz.func143
-- slices.Contains[[]string,string]
noncomputable def T144 : { F : AFunc // CT.func [[4], [0, 1, 5, 6, 7, 8]] Tryz.f144 = some F } := by
  refine ⟨?F, ?h⟩
  case h =>
    conv => lhs; cbv
theorem c144 : Cert 144 T144.1 := cert_of T144.2 Tryz.func144
-- suffrage/contest.rules
noncomputable def T145 : { F : AFunc // CT.func [[], [1, 2, 3, 4, 5, 6, 7, 8, 9, 10, 11, 12, 13, 14, 15, 16, 17]] Tryz.f145 = some F } := by
  refine ⟨?F, ?h⟩
  case h =>
    conv => lhs; cbv
theorem c145 : Cert 145 T145.1 := cert_of T145.2 Tryz.func145
-- suffrage/condorcet.Copeland$1
noncomputable def T146 : { F : AFunc // CT.func [[0], [2, 8], [], [11, 12], [13, 14, 15, 16], [18, 19], [6, 7, 17, 20, 21], [6, 7, 17, 23, 24, 25, 26, 27, 28, 29], [22, 30, 31], [22, 32], [1, 3, 9, 10, 11, 33]] Tryz.f146 = some F } := by
  refine ⟨?F, ?h⟩
  case h =>
    conv => lhs; cbv
theorem c146 : Cert 146 T146.1 := cert_of T146.2 Tryz.func146
-- suffrage/condorcet.count
noncomputable def T147 : { F : AFunc // CT.func [[0, 3, 11], [1, 19, 20, 21, 22], [23], [2, 4, 5, 8, 12, 24, 25, 26], [12, 14, 24, 27, 28, 29, 30, 31], [2, 32, 33], [34, 35, 36, 37, 38, 39, 40], [41, 42, 43, 44], [5, 45], [], [48, 49], [18, 50, 51, 52, 53, 54, 55, 56, 57, 58, 59, 60], [61], [4, 8, 13, 16, 17, 46, 47, 48, 62, 63, 64, 65, 66, 67, 68, 69, 70, 71, 72, 73], [15, 74, 75, 76, 77]] Tryz.f147 = some F } := FN _ Tryz.f147 78 5 [.cell 10 3 false, .t 11] (PC.seq ⟨_, by conv => lhs; cbv⟩ (PC.seq ⟨_, by conv => lhs; cbv⟩ (PC.seq ⟨_, by conv => lhs; cbv⟩ (PC.seq ⟨_, by conv => lhs; cbv⟩ (PC.seq ⟨_, by conv => lhs; cbv⟩ ⟨_, by conv => lhs; cbv⟩)))))
theorem c147 : Cert 147 T147.1 := cert_of T147.2 Tryz.func147
-- suffrage/condorcet.Copeland$2
noncomputable def T148 : { F : AFunc // CT.func [[], [0, 4, 5, 6, 7, 8, 9], [3, 10]] Tryz.f148 = some F } := by
  refine ⟨?F, ?h⟩
  case h =>
    conv => lhs; cbv
theorem c148 : Cert 148 T148.1 := cert_of T148.2 Tryz.func148
-- suffrage/ratio.Of
noncomputable def T149 : { F : AFunc // CT.func [[5], [6], [0, 1, 7, 8], [0, 1, 7, 9, 10, 11, 12, 13, 14, 15, 16, 17, 18, 19, 20]] Tryz.f149 = some F } := by
  refine ⟨?F, ?h⟩
  case h =>
    conv => lhs; cbv
theorem c149 : Cert 149 T149.1 := cert_of T149.2 Tryz.func149
-- suffrage/condorcet.Minimax$1
noncomputable def T150 : { F : AFunc // CT.func [[0], [2, 7], [], [10, 11], [6, 12, 13, 14, 15, 16, 17], [18], [1, 3, 8, 9, 10, 19]] Tryz.f150 = some F } := by
  refine ⟨?F, ?h⟩
  case h =>
    conv => lhs; cbv
theorem c150 : Cert 150 T150.1 := cert_of T150.2 Tryz.func150
-- suffrage/condorcet.Minimax$2
noncomputable def T151 : { F : AFunc // CT.func [[], [0, 3, 4, 5]] Tryz.f151 = some F } := by
  refine ⟨?F, ?h⟩
  case h =>
    conv => lhs; cbv
theorem c151 : Cert 151 T151.1 := cert_of T151.2 Tryz.func151
-- suffrage/paths.Strengths
noncomputable def T152 : { F : AFunc // CT.func [[0, 5], [9, 10, 11, 12, 13, 14], [1, 2, 8, 15], [1, 8, 17, 18, 19, 20], [2, 16, 21], [2, 16, 22, 23, 24], [25, 26], [27, 28, 29, 30], [31, 32], [6, 7, 27, 33]] Tryz.f152 = some F } := FN _ Tryz.f152 34 2 [.cell 4 100 false, .t 5] (PC.seq ⟨_, by conv => lhs; cbv⟩ (PC.seq (PC.block 0 (PC.seq ⟨_, by conv => lhs; cbv⟩ ⟨_, by conv => lhs; cbv⟩)) (PC.seq ⟨_, by conv => lhs; cbv⟩ ⟨_, by conv => lhs; cbv⟩)))
theorem c152 : Cert 152 T152.1 := cert_of T152.2 Tryz.func152
-- (*suffrage/choose.Count).First
noncomputable def T153 : { F : AFunc // CT.func [[4], [0, 1, 5, 6, 7, 8, 9, 10]] Tryz.f153 = some F } := by
  refine ⟨?F, ?h⟩
  case h =>
    conv => lhs; cbv
theorem c153 : Cert 153 T153.1 := cert_of T153.2 Tryz.func153
-- suffrage/choose.Best
noncomputable def T154 : { F : AFunc // CT.func [[], [0], [], [10, 11, 12], [14, 15, 16, 17, 18, 19, 20, 21, 22, 23, 24, 25, 26, 27], [6, 13, 28, 29], [13, 31, 32, 33, 34, 35, 36, 37, 38, 39], [6, 30, 40, 41, 42, 43], [6, 30, 44], [1, 7, 8, 9, 10, 45]] Tryz.f154 = some F } := by
  refine ⟨?F, ?h⟩
  case h =>
    conv => lhs; cbv
theorem c154 : Cert 154 T154.1 := cert_of T154.2 Tryz.func154
-- suffrage/choose.All
noncomputable def T155 : { F : AFunc // CT.func [[], [0], [], [6, 7], [3, 8, 9, 10, 11], [12], [4, 5, 6, 13]] Tryz.f155 = some F } := by
  refine ⟨?F, ?h⟩
  case h =>
    conv => lhs; cbv
theorem c155 : Cert 155 T155.1 := cert_of T155.2 Tryz.func155
-- suffrage/paths.Count$1
noncomputable def T156 : { F : AFunc // CT.func [[3], [0, 1, 4, 5, 6, 7]] Tryz.f156 = some F } := by
  refine ⟨?F, ?h⟩
  case h =>
    conv => lhs; cbv
theorem c156 : Cert 156 T156.1 := cert_of T156.2 Tryz.func156
-- suffrage/ranked.Lock
noncomputable def T157 : { F : AFunc // CT.func [[0, 7], [1, 2, 3, 11, 12, 13, 14, 15, 16, 17], [8], [], [21, 22, 23], [24, 25, 26, 27, 28, 29], [10, 30, 31, 32, 33, 34], [10, 30, 35], [18, 19, 20, 21, 36, 37]] Tryz.f157 = some F } := by
  refine ⟨?F, ?h⟩
  case h =>
    conv => lhs; cbv
theorem c157 : Cert 157 T157.1 := cert_of T157.2 Tryz.func157
-- slices.Contains[[]suffrage/api.Link,suffrage/api.Link]
noncomputable def T158 : { F : AFunc // CT.func [[1, 4], [0, 3, 5, 6, 7, 8]] Tryz.f158 = some F } := by
  refine ⟨?F, ?h⟩
  case h =>
    conv => lhs; cbv
theorem c158 : Cert 158 T158.1 := cert_of T158.2 Tryz.func158
-- slices.DeleteFunc[[]int,int]
noncomputable def T159 : { F : AFunc // CT.func [[4], [8, 9, 10], [11], [0, 1, 5, 12, 13], [12, 14, 15], [16, 17, 18], [7, 20, 21, 29], [19, 22, 23, 24, 25], [26, 27, 28], [7, 29, 30, 31, 32, 33], [34, 35], [1, 6, 19, 36, 37, 38], [0, 5, 39, 40, 41]] Tryz.f159 = some F } := by
  refine ⟨?F, ?h⟩
  case h =>
    conv => lhs; cbv
theorem c159 : Cert 159 T159.1 := cert_of T159.2 Tryz.func159
-- suffrage/ranked.Count$1
noncomputable def T160 : { F : AFunc // CT.func [[3], [0, 1, 4, 5, 6, 7]] Tryz.f160 = some F } := by
  refine ⟨?F, ?h⟩
  case h =>
    conv => lhs; cbv
theorem c160 : Cert 160 T160.1 := cert_of T160.2 Tryz.func160
-- (*suffrage/runoff.count).round
noncomputable def T161 : { F : AFunc // CT.func [[0, 2], [11, 12, 13, 14, 15, 16, 17, 18, 19], [], [], [], [23, 24, 25], [7, 26, 27, 28], [29], [20, 21, 22, 23, 30, 31, 32, 33, 34, 35], [4, 36, 37, 38, 39, 40], [5, 41, 42, 43, 44, 45, 46, 47, 48, 49, 50, 51, 52, 53, 54, 55, 56], [3, 57, 58, 59, 60, 61, 62, 63, 64, 65, 66, 67, 68], [8, 69, 70, 71, 72, 73], [3, 8, 57, 74, 75, 76, 77, 78, 79, 80, 81, 82, 83, 84], [85, 86, 87, 88, 89, 90, 91, 92, 93], [10, 94, 95, 96], [9, 97, 98, 99, 100, 101, 102, 103, 104, 105, 106, 107, 108, 109, 110, 111, 112, 113, 114], [1, 115, 116, 117, 118, 119, 120, 121, 122, 123, 124]] Tryz.f161 = some F } := FN _ Tryz.f161 125 1 [.t 2] (PC.seq ⟨_, by conv => lhs; cbv⟩ (PC.seq ⟨_, by conv => lhs; cbv⟩ (PC.seq ⟨_, by conv => lhs; cbv⟩ (PC.seq ⟨_, by conv => lhs; cbv⟩ (PC.seq ⟨_, by conv => lhs; cbv⟩ (PC.seq ⟨_, by conv => lhs; cbv⟩ (PC.seq ⟨_, by conv => lhs; cbv⟩ ⟨_, by conv => lhs; cbv⟩)))))))
theorem c161 : Cert 161 T161.1 := cert_of T161.2 Tryz.func161
-- suffrage/coombs.rounds
def R_coombs_rounds_10 : AC := .ops false [⟨some 48, .mov (.t 2), none, []⟩,
  ⟨some 49, .mov (.t 11), none, []⟩,
  ⟨some 50, .mov (.t 8), none, []⟩,
  ⟨some 51, .call (.meth (.t 48) [(200, 349)]) [.t 49, .t 50], none, []⟩,
  ⟨some 47, .mov (.t 51), none, []⟩,
  ⟨some 52, .ext (.t 47) 0, none, []⟩,
  ⟨some 53, .ext (.t 47) 1, none, []⟩,
  ⟨some 15, .mov (.t 52), none, []⟩,
  ⟨some 16, .mov (.t 53), none, []⟩] [11, 47, 48, 49, 50, 51, 52, 53]
def R_coombs_rounds_15 : AC := .ops false [⟨some 80, .mov (.t 7), none, []⟩,
  ⟨some 81, .mov (.t 2), none, []⟩,
  ⟨some 82, .mov (.t 8), none, []⟩,
  ⟨some 83, .call (.meth (.t 81) [(200, 350)]) [.t 82], none, []⟩,
  ⟨some 84, .call (.fn 214) [.t 80, .t 83], none, []⟩,
  ⟨some 17, .alloc [.int .i64 0], none, []⟩,
  ⟨none, .store 1 (.t 17) (.t 84), none, []⟩] [15, 54, 80, 81, 82, 83, 84]
noncomputable def T162 : { F : AFunc // CT.func [[0], [1, 18, 19, 20, 21, 22], [23, 24, 25], [26], [], [29, 30], [10, 31, 32, 33], [34], [13, 27, 28, 29, 35, 36, 37, 38, 39, 40, 41], [12, 42, 43, 44, 45, 46], [11, 47, 48, 49, 50, 51, 52, 53], [16], [2, 3, 8, 9, 15, 54, 55, 56, 57, 58, 59, 60, 61, 62, 63], [14, 64, 65, 66, 67, 68, 69, 70, 71, 72, 73, 74, 75], [7, 76, 77, 78, 79], [15, 54, 80, 81, 82, 83, 84], [85, 86, 87], [88, 89, 90], [17, 91, 92, 93], [14, 94, 95, 96, 97, 98, 99, 100, 101, 102, 103, 104, 105]] Tryz.f162 = some F } := FN _ Tryz.f162 106 3 [.cell 6 3 false] (PC.seq ⟨_, by conv => lhs; cbv⟩ (PC.seq ⟨_, by conv => lhs; cbv⟩ (PC.seq ⟨_, by conv => lhs; cbv⟩ (PC.seq ⟨_, by conv => lhs; cbv⟩ (PC.block 2 (PC.loop (PC.block 3 (PC.seq ⟨_, by conv => lhs; cbv⟩ (PC.seq ⟨_, by conv => lhs; cbv⟩ (PC.seq (PC.seq ⟨R_coombs_rounds_10, by kernel_rfl⟩ ⟨_, by conv => lhs; cbv⟩) (PC.seq ⟨R_coombs_rounds_15, by kernel_rfl⟩ ⟨_, by conv => lhs; cbv⟩)))))))))))
theorem c162 : Cert 162 T162.1 := cert_of T162.2 Tryz.func162
-- suffrage/gregory.Quota
noncomputable def T163 : { F : AFunc // CT.func [[0, 4, 5], [8, 9, 10, 11, 12, 13, 14], [1, 2, 15], [2, 7, 15, 16, 17, 18, 19, 20], [1, 6, 21, 22, 23, 24, 25]] Tryz.f163 = some F } := by
  refine ⟨?F, ?h⟩
  case h =>
    conv => lhs; cbv
theorem c163 : Cert 163 T163.1 := cert_of T163.2 Tryz.func163
-- suffrage/profile.Marked
noncomputable def T164 : { F : AFunc // CT.func [[0, 2, 3], [1, 4, 5, 6, 7]] Tryz.f164 = some F } := by
  refine ⟨?F, ?h⟩
  case h =>
    conv => lhs; cbv
theorem c164 : Cert 164 T164.1 := cert_of T164.2 Tryz.func164
-- (*suffrage/gregory.count).round
noncomputable def T165 : { F : AFunc // CT.func [[11, 12, 13, 14, 15], [16], [3, 17, 18, 19, 20, 21, 22, 23, 24, 25, 26], [27, 28, 29], [2, 4, 5, 7, 30, 31, 32, 33, 34, 35, 36, 37, 89], [38, 39, 40, 41, 42, 43, 44, 45], [10, 46, 47, 48], [50, 51, 52, 53, 54, 55, 56, 57, 58, 59, 60, 61, 62, 63, 64, 65, 66], [2, 7, 49, 67, 68], [70, 71], [5, 69, 72, 73, 74, 75, 76, 77, 78, 79], [80, 81, 82], [8, 83, 84, 85, 86, 87, 88], [49, 90, 91, 92, 93, 94, 95, 96, 97, 98, 99, 100], [4, 5, 7, 89, 101, 102, 103, 104, 105, 106], [2, 107, 108, 109, 110, 111, 112, 113], [114, 115, 116], [9, 117, 118, 119], [0, 4, 5, 6, 69, 120, 121, 122, 123, 124, 125, 126, 127, 128, 129, 130, 131, 132, 133, 134, 135, 136, 137]] Tryz.f165 = some F } := FN _ Tryz.f165 138 1 [] (PC.seq ⟨_, by conv => lhs; cbv⟩ (PC.seq ⟨_, by conv => lhs; cbv⟩ (PC.seq ⟨_, by conv => lhs; cbv⟩ (PC.seq ⟨_, by conv => lhs; cbv⟩ (PC.seq (PC.block 0 (PC.seq ⟨_, by conv => lhs; cbv⟩ (PC.cond (.t 49) ⟨_, by conv => lhs; cbv⟩ ⟨_, by conv => lhs; cbv⟩))) ⟨_, by conv => lhs; cbv⟩)))))
theorem c165 : Cert 165 T165.1 := cert_of T165.2 Tryz.func165
-- (*suffrage/meek.count).fills
noncomputable def T166 : { F : AFunc // CT.func [[2], [3, 4, 5, 6, 7, 8, 9, 10, 11, 12, 13, 14, 15, 16, 17, 18, 19, 20, 21], [0, 22], [22, 23, 24, 25, 26, 27], [28, 29, 30, 31, 32, 33, 34, 35, 36, 37], [0, 28]] Tryz.f166 = some F } := by
  refine ⟨?F, ?h⟩
  case h =>
    conv => lhs; cbv
theorem c166 : Cert 166 T166.1 := cert_of T166.2 Tryz.func166
-- (*suffrage/meek.count).reaches
noncomputable def T167 : { F : AFunc // CT.func [[2], [4, 5, 6, 7, 8, 9, 10], [11, 12, 13, 14, 15, 16, 17, 18, 19, 20, 21, 22, 23], [0, 3, 24], [0, 3, 24, 25, 26, 27], []] Tryz.f167 = some F } := by
  refine ⟨?F, ?h⟩
  case h =>
    conv => lhs; cbv
theorem c167 : Cert 167 T167.1 := cert_of T167.2 Tryz.func167
-- (*suffrage/meek.count).drops
noncomputable def T168 : { F : AFunc // CT.func [[0, 2], [5, 6, 7, 8, 9, 10, 11, 12, 13, 14], [3, 15, 16, 17, 18, 19, 20, 21], [1, 22], [22, 23, 24, 25, 26, 27, 28, 29, 30, 31, 32, 33, 34], [35, 36, 37, 38, 39, 40], [41, 42, 43, 44, 45, 46], [1, 4, 47, 48, 49], []] Tryz.f168 = some F } := by
  refine ⟨?F, ?h⟩
  case h =>
    conv => lhs; cbv
theorem c168 : Cert 168 T168.1 := cert_of T168.2 Tryz.func168
-- (*suffrage/meek.count).keep
noncomputable def T169 : { F : AFunc // CT.func [[2], [5, 6, 7, 8, 9, 10, 11], [], [15, 16, 17], [18, 19, 20, 21, 22, 23, 24, 25, 26, 27, 28], [4, 29, 30, 31, 32, 33, 34, 35, 36, 37, 38, 39, 40, 41, 42, 43, 44, 45, 46, 47, 48, 49, 50, 51, 52, 53, 54, 55, 56, 57], [4, 29, 58], [0, 12, 13, 14, 15]] Tryz.f169 = some F } := by
  refine ⟨?F, ?h⟩
  case h =>
    conv => lhs; cbv
theorem c169 : Cert 169 T169.1 := cert_of T169.2 Tryz.func169
-- (*suffrage/meek.count).turn
noncomputable def T170 : { F : AFunc // CT.func [[0], [5, 6, 7, 8, 9, 10, 11], [12, 13, 14, 15, 16, 17, 18, 19, 20, 21, 22, 23], [24, 25, 26, 27], [], [31, 32, 33], [34, 35, 36, 37, 38, 39, 40, 41], [42, 43, 44], [3, 4, 45, 46, 47, 48, 49, 50, 51, 52, 53, 54, 55, 56], [3, 4, 45, 57], [1, 28, 29, 30, 31, 58, 59, 60, 61, 62, 63, 64, 65, 66, 67, 68, 69, 70, 71, 72, 73, 74, 75, 76]] Tryz.f170 = some F } := by
  refine ⟨?F, ?h⟩
  case h =>
    conv => lhs; cbv
theorem c170 : Cert 170 T170.1 := cert_of T170.2 Tryz.func170
-- suffrage/meek.told
noncomputable def T171 : { F : AFunc // CT.func [[], [0], [], [10, 11, 12], [4, 6, 13, 14, 15, 16, 17], [5, 18, 19, 20, 21], [22], [7, 8, 9, 10, 23]] Tryz.f171 = some F } := by
  refine ⟨?F, ?h⟩
  case h =>
    conv => lhs; cbv
theorem c171 : Cert 171 T171.1 := cert_of T171.2 Tryz.func171
-- suffrage/phragmen.zeros
noncomputable def T172 : { F : AFunc // CT.func [[], [0], [], [5, 6, 7, 8, 9], [10], [3, 4, 5, 11]] Tryz.f172 = some F } := by
  refine ⟨?F, ?h⟩
  case h =>
    conv => lhs; cbv
theorem c172 : Cert 172 T172.1 := cert_of T172.2 Tryz.func172
end Go.Proofs.YtncdaicaljpgfaaGreat
