/- The functions in the abstract language, worked out by Lean. -/
import Derived.Test.YtkpfhnicdlgjiaaGreatAlPc
set_option linter.unusedVariables false
set_option maxHeartbeats 1000000
set_option maxRecDepth 100000
namespace Go.Proofs.YtkpfhnicdlgjiaaGreat
-- suffrage/condorcet.count
noncomputable def T101 : { F : AFunc // CT.func [[0, 3, 11], [1, 19, 20, 21, 22], [23], [2, 4, 5, 8, 12, 24, 25, 26], [12, 14, 24, 27, 28, 29, 30, 31], [2, 32, 33], [34, 35, 36, 37, 38, 39, 40], [41, 42, 43, 44], [5, 45], [], [48, 49], [18, 50, 51, 52, 53, 54, 55, 56, 57, 58, 59, 60], [61], [4, 8, 13, 16, 17, 46, 47, 48, 62, 63, 64, 65, 66, 67, 68, 69, 70, 71, 72, 73], [15, 74, 75, 76, 77]] Tryz.f101 = some F } := FN _ Tryz.f101 78 5 [.cell 10 3 false, .t 11] (PC.seq ⟨_, by conv => lhs; cbv⟩ (PC.seq ⟨_, by conv => lhs; cbv⟩ (PC.seq ⟨_, by conv => lhs; cbv⟩ ⟨_, by conv => lhs; cbv⟩)))
theorem c101 : Cert 101 T101.1 := cert_of T101.2 Tryz.func101
-- suffrage/condorcet.Copeland$2
noncomputable def T102 : { F : AFunc // CT.func [[], [0, 4, 5, 6, 7, 8, 9], [3, 10]] Tryz.f102 = some F } := by
  refine ⟨?F, ?h⟩
  case h =>
    conv => lhs; cbv
theorem c102 : Cert 102 T102.1 := cert_of T102.2 Tryz.func102
-- suffrage/ratio.Of
noncomputable def T103 : { F : AFunc // CT.func [[5], [6], [0, 1, 7, 8], [0, 1, 7, 9, 10, 11, 12, 13, 14, 15, 16, 17, 18, 19, 20]] Tryz.f103 = some F } := by
  refine ⟨?F, ?h⟩
  case h =>
    conv => lhs; cbv
theorem c103 : Cert 103 T103.1 := cert_of T103.2 Tryz.func103
-- suffrage/condorcet.Minimax$1
noncomputable def T104 : { F : AFunc // CT.func [[0], [2, 7], [], [10, 11], [6, 12, 13, 14, 15, 16, 17], [18], [1, 3, 8, 9, 10, 19]] Tryz.f104 = some F } := by
  refine ⟨?F, ?h⟩
  case h =>
    conv => lhs; cbv
theorem c104 : Cert 104 T104.1 := cert_of T104.2 Tryz.func104
-- suffrage/condorcet.Minimax$2
noncomputable def T105 : { F : AFunc // CT.func [[], [0, 3, 4, 5]] Tryz.f105 = some F } := by
  refine ⟨?F, ?h⟩
  case h =>
    conv => lhs; cbv
theorem c105 : Cert 105 T105.1 := cert_of T105.2 Tryz.func105
-- suffrage/ratio.Whole
noncomputable def T106 : { F : AFunc // CT.func [[], [0, 3, 4, 5, 6, 7, 8, 9]] Tryz.f106 = some F } := by
  refine ⟨?F, ?h⟩
  case h =>
    conv => lhs; cbv
theorem c106 : Cert 106 T106.1 := cert_of T106.2 Tryz.func106
-- suffrage/choose.Check
noncomputable def T107 : { F : AFunc // CT.func [[0, 10], [1, 12, 13, 14, 15, 16, 17, 18, 19, 20], [2, 3, 4, 5, 11], [2, 3, 4, 5, 11, 22, 23, 24, 25, 26, 27, 28, 29, 30, 31, 32, 33, 34, 35, 36], [21], [21]] Tryz.f107 = some F } := by
  refine ⟨?F, ?h⟩
  case h =>
    conv => lhs; cbv
theorem c107 : Cert 107 T107.1 := cert_of T107.2 Tryz.func107
-- suffrage/pairs.Of
noncomputable def T108 : { F : AFunc // CT.func [[0, 3], [9, 10], [11], [1, 12, 13, 14], [3, 12, 15], [], [19, 20, 21], [22, 23, 24, 25, 26], [27], [], [30, 31], [32], [], [35, 36], [37, 38, 39], [8, 40, 41, 42, 43, 44, 45, 46, 47, 48, 49, 50], [8, 40, 51], [7, 33, 34, 35, 52], [5, 6, 28, 29, 30, 53], [1, 16, 17, 18, 19, 54]] Tryz.f108 = some F } := by
  refine ⟨?F, ?h⟩
  case h =>
    conv => lhs; cbv
theorem c108 : Cert 108 T108.1 := cert_of T108.2 Tryz.func108
-- suffrage/paths.Strengths
noncomputable def T109 : { F : AFunc // CT.func [[0, 5], [9, 10, 11, 12, 13, 14], [1, 2, 8, 15], [1, 8, 17, 18, 19, 20], [2, 16, 21], [2, 16, 22, 23, 24], [25, 26], [27, 28, 29, 30], [31, 32], [6, 7, 27, 33]] Tryz.f109 = some F } := FN _ Tryz.f109 34 2 [.cell 4 100 false, .t 5] (PC.seq ⟨_, by conv => lhs; cbv⟩ (PC.seq ⟨_, by conv => lhs; cbv⟩ ⟨_, by conv => lhs; cbv⟩))
theorem c109 : Cert 109 T109.1 := cert_of T109.2 Tryz.func109
-- suffrage/choose.Of
noncomputable def T110 : { F : AFunc // CT.func [[2], [0, 3, 4, 5, 6]] Tryz.f110 = some F } := by
  refine ⟨?F, ?h⟩
  case h =>
    conv => lhs; cbv
theorem c110 : Cert 110 T110.1 := cert_of T110.2 Tryz.func110
-- (*suffrage/choose.Count).First
noncomputable def T111 : { F : AFunc // CT.func [[4], [0, 1, 5, 6, 7, 8, 9, 10]] Tryz.f111 = some F } := by
  refine ⟨?F, ?h⟩
  case h =>
    conv => lhs; cbv
theorem c111 : Cert 111 T111.1 := cert_of T111.2 Tryz.func111
-- suffrage/choose.Best
noncomputable def T112 : { F : AFunc // CT.func [[], [0], [], [10, 11, 12], [14, 15, 16, 17, 18, 19, 20, 21, 22, 23, 24, 25, 26, 27], [6, 13, 28, 29], [13, 31, 32, 33, 34, 35, 36, 37, 38, 39], [6, 30, 40, 41, 42, 43], [6, 30, 44], [1, 7, 8, 9, 10, 45]] Tryz.f112 = some F } := by
  refine ⟨?F, ?h⟩
  case h =>
    conv => lhs; cbv
theorem c112 : Cert 112 T112.1 := cert_of T112.2 Tryz.func112
-- suffrage/choose.All
noncomputable def T113 : { F : AFunc // CT.func [[], [0], [], [6, 7], [3, 8, 9, 10, 11], [12], [4, 5, 6, 13]] Tryz.f113 = some F } := by
  refine ⟨?F, ?h⟩
  case h =>
    conv => lhs; cbv
theorem c113 : Cert 113 T113.1 := cert_of T113.2 Tryz.func113
-- suffrage/paths.Count$1
noncomputable def T114 : { F : AFunc // CT.func [[3], [0, 1, 4, 5, 6, 7]] Tryz.f114 = some F } := by
  refine ⟨?F, ?h⟩
  case h =>
    conv => lhs; cbv
theorem c114 : Cert 114 T114.1 := cert_of T114.2 Tryz.func114
-- suffrage/choose.Wholes
noncomputable def T115 : { F : AFunc // CT.func [[], [0], [], [8, 9, 10], [4, 11, 12, 13, 14, 15], [16], [5, 6, 7, 8, 17]] Tryz.f115 = some F } := by
  refine ⟨?F, ?h⟩
  case h =>
    conv => lhs; cbv
theorem c115 : Cert 115 T115.1 := cert_of T115.2 Tryz.func115
-- suffrage/ranked.Lock
noncomputable def T116 : { F : AFunc // CT.func [[0, 7], [1, 2, 3, 11, 12, 13, 14, 15, 16, 17], [8], [], [21, 22, 23], [24, 25, 26, 27, 28, 29], [10, 30, 31, 32, 33, 34], [10, 30, 35], [18, 19, 20, 21, 36, 37]] Tryz.f116 = some F } := by
  refine ⟨?F, ?h⟩
  case h =>
    conv => lhs; cbv
theorem c116 : Cert 116 T116.1 := cert_of T116.2 Tryz.func116
-- slices.Contains[[]suffrage/api.Link,suffrage/api.Link]
noncomputable def T117 : { F : AFunc // CT.func [[1, 4], [0, 3, 5, 6, 7, 8]] Tryz.f117 = some F } := by
  refine ⟨?F, ?h⟩
  case h =>
    conv => lhs; cbv
theorem c117 : Cert 117 T117.1 := cert_of T117.2 Tryz.func117
-- slices.DeleteFunc[[]int,int]
noncomputable def T118 : { F : AFunc // CT.func [[4], [8, 9, 10], [11], [0, 1, 5, 12, 13], [12, 14, 15], [16, 17, 18], [7, 20, 21, 29], [19, 22, 23, 24, 25], [26, 27, 28], [7, 29, 30, 31, 32, 33], [34, 35], [1, 6, 19, 36, 37, 38], [0, 5, 39, 40, 41]] Tryz.f118 = some F } := by
  refine ⟨?F, ?h⟩
  case h =>
    conv => lhs; cbv
theorem c118 : Cert 118 T118.1 := cert_of T118.2 Tryz.func118
-- suffrage/ranked.Count$1
noncomputable def T119 : { F : AFunc // CT.func [[3], [0, 1, 4, 5, 6, 7]] Tryz.f119 = some F } := by
  refine ⟨?F, ?h⟩
  case h =>
    conv => lhs; cbv
theorem c119 : Cert 119 T119.1 := cert_of T119.2 Tryz.func119
-- (*suffrage/runoff.count).round
noncomputable def T120 : { F : AFunc // CT.func [[0, 2], [11, 12, 13, 14, 15, 16, 17, 18, 19], [], [], [], [23, 24, 25], [7, 26, 27, 28], [29], [20, 21, 22, 23, 30, 31, 32, 33, 34, 35], [4, 36, 37, 38, 39, 40], [5, 41, 42, 43, 44, 45, 46, 47, 48, 49, 50, 51, 52, 53, 54, 55, 56], [3, 57, 58, 59, 60, 61, 62, 63, 64, 65, 66, 67, 68], [8, 69, 70, 71, 72, 73], [3, 8, 57, 74, 75, 76, 77, 78, 79, 80, 81, 82, 83, 84], [85, 86, 87, 88, 89, 90, 91, 92, 93], [10, 94, 95, 96], [9, 97, 98, 99, 100, 101, 102, 103, 104, 105, 106, 107, 108, 109, 110, 111, 112, 113, 114], [1, 115, 116, 117, 118, 119, 120, 121, 122, 123, 124]] Tryz.f120 = some F } := FN _ Tryz.f120 125 1 [.t 2] (PC.seq ⟨_, by conv => lhs; cbv⟩ (PC.seq ⟨_, by conv => lhs; cbv⟩ (PC.seq ⟨_, by conv => lhs; cbv⟩ (PC.seq ⟨_, by conv => lhs; cbv⟩ (PC.seq ⟨_, by conv => lhs; cbv⟩ (PC.seq ⟨_, by conv => lhs; cbv⟩ ⟨_, by conv => lhs; cbv⟩))))))
theorem c120 : Cert 120 T120.1 := cert_of T120.2 Tryz.func120
-- suffrage/coombs.rounds
def R_coombs_rounds_10 : AC := .ops false [⟨some 48, .mov (.t 2), none, []⟩,
  ⟨some 49, .mov (.t 11), none, []⟩,
  ⟨some 50, .mov (.t 8), none, []⟩,
  ⟨some 51, .call (.meth (.t 48) [(171, 298)]) [.t 49, .t 50], none, []⟩,
  ⟨some 47, .mov (.t 51), none, []⟩,
  ⟨some 52, .ext (.t 47) 0, none, []⟩,
  ⟨some 53, .ext (.t 47) 1, none, []⟩,
  ⟨some 15, .mov (.t 52), none, []⟩,
  ⟨some 16, .mov (.t 53), none, []⟩] [11, 47, 48, 49, 50, 51, 52, 53]
def R_coombs_rounds_15 : AC := .ops false [⟨some 80, .mov (.t 7), none, []⟩,
  ⟨some 81, .mov (.t 2), none, []⟩,
  ⟨some 82, .mov (.t 8), none, []⟩,
  ⟨some 83, .call (.meth (.t 81) [(171, 299)]) [.t 82], none, []⟩,
  ⟨some 84, .call (.fn 175) [.t 80, .t 83], none, []⟩,
  ⟨some 17, .alloc [.int .i64 0], none, []⟩,
  ⟨none, .store 1 (.t 17) (.t 84), none, []⟩] [15, 54, 80, 81, 82, 83, 84]
noncomputable def T121 : { F : AFunc // CT.func [[0], [1, 18, 19, 20, 21, 22], [23, 24, 25], [26], [], [29, 30], [10, 31, 32, 33], [34], [13, 27, 28, 29, 35, 36, 37, 38, 39, 40, 41], [12, 42, 43, 44, 45, 46], [11, 47, 48, 49, 50, 51, 52, 53], [16], [2, 3, 8, 9, 15, 54, 55, 56, 57, 58, 59, 60, 61, 62, 63], [14, 64, 65, 66, 67, 68, 69, 70, 71, 72, 73, 74, 75], [7, 76, 77, 78, 79], [15, 54, 80, 81, 82, 83, 84], [85, 86, 87], [88, 89, 90], [17, 91, 92, 93], [14, 94, 95, 96, 97, 98, 99, 100, 101, 102, 103, 104, 105]] Tryz.f121 = some F } := FN _ Tryz.f121 106 3 [.cell 6 3 false] (PC.seq ⟨_, by conv => lhs; cbv⟩ (PC.seq ⟨_, by conv => lhs; cbv⟩ (PC.seq ⟨_, by conv => lhs; cbv⟩ (PC.seq ⟨_, by conv => lhs; cbv⟩ (PC.block 2 (PC.loop (PC.block 3 (PC.seq ⟨_, by conv => lhs; cbv⟩ (PC.seq ⟨_, by conv => lhs; cbv⟩ (PC.seq (PC.seq ⟨R_coombs_rounds_10, by kernel_rfl⟩ ⟨_, by conv => lhs; cbv⟩) (PC.seq ⟨R_coombs_rounds_15, by kernel_rfl⟩ ⟨_, by conv => lhs; cbv⟩)))))))))))
theorem c121 : Cert 121 T121.1 := cert_of T121.2 Tryz.func121
-- suffrage/gregory.Quota
noncomputable def T122 : { F : AFunc // CT.func [[0, 4, 5], [8, 9, 10, 11, 12, 13, 14], [1, 2, 15], [2, 7, 15, 16, 17, 18, 19, 20], [1, 6, 21, 22, 23, 24, 25]] Tryz.f122 = some F } := by
  refine ⟨?F, ?h⟩
  case h =>
    conv => lhs; cbv
theorem c122 : Cert 122 T122.1 := cert_of T122.2 Tryz.func122
-- suffrage/profile.Marked
noncomputable def T123 : { F : AFunc // CT.func [[0, 2, 3], [1, 4, 5, 6, 7]] Tryz.f123 = some F } := by
  refine ⟨?F, ?h⟩
  case h =>
    conv => lhs; cbv
theorem c123 : Cert 123 T123.1 := cert_of T123.2 Tryz.func123
-- (*suffrage/gregory.count).round
noncomputable def T124 : { F : AFunc // CT.func [[11, 12, 13, 14, 15], [16], [3, 17, 18, 19, 20, 21, 22, 23, 24, 25, 26], [27, 28, 29], [2, 4, 5, 7, 30, 31, 32, 33, 34, 35, 36, 37, 89], [38, 39, 40, 41, 42, 43, 44, 45], [10, 46, 47, 48], [50, 51, 52, 53, 54, 55, 56, 57, 58, 59, 60, 61, 62, 63, 64, 65, 66], [2, 7, 49, 67, 68], [70, 71], [5, 69, 72, 73, 74, 75, 76, 77, 78, 79], [80, 81, 82], [8, 83, 84, 85, 86, 87, 88], [49, 90, 91, 92, 93, 94, 95, 96, 97, 98, 99, 100], [4, 5, 7, 89, 101, 102, 103, 104, 105, 106], [2, 107, 108, 109, 110, 111, 112, 113], [114, 115, 116], [9, 117, 118, 119], [0, 4, 5, 6, 69, 120, 121, 122, 123, 124, 125, 126, 127, 128, 129, 130, 131, 132, 133, 134, 135, 136, 137]] Tryz.f124 = some F } := FN _ Tryz.f124 138 1 [] (PC.seq ⟨_, by conv => lhs; cbv⟩ (PC.seq ⟨_, by conv => lhs; cbv⟩ (PC.seq ⟨_, by conv => lhs; cbv⟩ (PC.seq ⟨_, by conv => lhs; cbv⟩ (PC.seq (PC.block 0 (PC.seq ⟨_, by conv => lhs; cbv⟩ ⟨_, by conv => lhs; cbv⟩)) ⟨_, by conv => lhs; cbv⟩)))))
theorem c124 : Cert 124 T124.1 := cert_of T124.2 Tryz.func124
-- (*suffrage/meek.count).fills
noncomputable def T125 : { F : AFunc // CT.func [[2], [3, 4, 5, 6, 7, 8, 9, 10, 11, 12, 13, 14, 15, 16, 17, 18, 19, 20, 21], [0, 22], [22, 23, 24, 25, 26, 27], [28, 29, 30, 31, 32, 33, 34, 35, 36, 37], [0, 28]] Tryz.f125 = some F } := by
  refine ⟨?F, ?h⟩
  case h =>
    conv => lhs; cbv
theorem c125 : Cert 125 T125.1 := cert_of T125.2 Tryz.func125
-- (*suffrage/meek.count).reaches
noncomputable def T126 : { F : AFunc // CT.func [[2], [4, 5, 6, 7, 8, 9, 10], [11, 12, 13, 14, 15, 16, 17, 18, 19, 20, 21, 22, 23], [0, 3, 24], [0, 3, 24, 25, 26, 27], []] Tryz.f126 = some F } := by
  refine ⟨?F, ?h⟩
  case h =>
    conv => lhs; cbv
theorem c126 : Cert 126 T126.1 := cert_of T126.2 Tryz.func126
-- (*suffrage/meek.count).drops
noncomputable def T127 : { F : AFunc // CT.func [[0, 2], [5, 6, 7, 8, 9, 10, 11, 12, 13, 14], [3, 15, 16, 17, 18, 19, 20, 21], [1, 22], [22, 23, 24, 25, 26, 27, 28, 29, 30, 31, 32, 33, 34], [35, 36, 37, 38, 39, 40], [41, 42, 43, 44, 45, 46], [1, 4, 47, 48, 49], []] Tryz.f127 = some F } := by
  refine ⟨?F, ?h⟩
  case h =>
    conv => lhs; cbv
theorem c127 : Cert 127 T127.1 := cert_of T127.2 Tryz.func127
-- (*suffrage/meek.count).keep
noncomputable def T128 : { F : AFunc // CT.func [[2], [5, 6, 7, 8, 9, 10, 11], [], [15, 16, 17], [18, 19, 20, 21, 22, 23, 24, 25, 26, 27, 28], [4, 29, 30, 31, 32, 33, 34, 35, 36, 37, 38, 39, 40, 41, 42, 43, 44, 45, 46, 47, 48, 49, 50, 51, 52, 53, 54, 55, 56, 57], [4, 29, 58], [0, 12, 13, 14, 15]] Tryz.f128 = some F } := by
  refine ⟨?F, ?h⟩
  case h =>
    conv => lhs; cbv
theorem c128 : Cert 128 T128.1 := cert_of T128.2 Tryz.func128
-- (*suffrage/meek.count).turn
noncomputable def T129 : { F : AFunc // CT.func [[0], [5, 6, 7, 8, 9, 10, 11], [12, 13, 14, 15, 16, 17, 18, 19, 20, 21, 22, 23], [24, 25, 26, 27], [], [31, 32, 33], [34, 35, 36, 37, 38, 39, 40, 41], [42, 43, 44], [3, 4, 45, 46, 47, 48, 49, 50, 51, 52, 53, 54, 55, 56], [3, 4, 45, 57], [1, 28, 29, 30, 31, 58, 59, 60, 61, 62, 63, 64, 65, 66, 67, 68, 69, 70, 71, 72, 73, 74, 75, 76]] Tryz.f129 = some F } := by
  refine ⟨?F, ?h⟩
  case h =>
    conv => lhs; cbv
theorem c129 : Cert 129 T129.1 := cert_of T129.2 Tryz.func129
-- suffrage/meek.told
noncomputable def T130 : { F : AFunc // CT.func [[], [0], [], [10, 11, 12], [4, 6, 13, 14, 15, 16, 17], [5, 18, 19, 20, 21], [22], [7, 8, 9, 10, 23]] Tryz.f130 = some F } := by
  refine ⟨?F, ?h⟩
  case h =>
    conv => lhs; cbv
theorem c130 : Cert 130 T130.1 := cert_of T130.2 Tryz.func130
-- suffrage/phragmen.zeros
noncomputable def T131 : { F : AFunc // CT.func [[], [0], [], [5, 6, 7, 8, 9], [10], [3, 4, 5, 11]] Tryz.f131 = some F } := by
  refine ⟨?F, ?h⟩
  case h =>
    conv => lhs; cbv
theorem c131 : Cert 131 T131.1 := cert_of T131.2 Tryz.func131
-- suffrage/profile.Many
noncomputable def T132 : { F : AFunc // CT.func [[0, 2, 3], [1, 4, 5, 6, 7]] Tryz.f132 = some F } := by
  refine ⟨?F, ?h⟩
  case h =>
    conv => lhs; cbv
theorem c132 : Cert 132 T132.1 := cert_of T132.2 Tryz.func132
-- suffrage/phragmen.Count$1
noncomputable def T133 : { F : AFunc // CT.func [[], [1, 2, 15, 16, 17, 18, 19, 20, 21, 22], [23], [], [], [27, 28, 29], [13, 30, 31, 32, 33, 34, 35, 36, 37], [12], [10, 11, 38, 39, 40, 41, 42, 43, 44, 45, 46, 47], [10, 11, 38, 48], [8, 24, 25, 26, 27, 49, 50, 51, 52, 53], [0, 4, 54, 55, 56, 57], [3, 58, 59, 60], [5, 14, 61, 62, 63, 64, 65, 66, 67, 68, 69, 70, 71, 72, 73, 74, 75], [7, 76]] Tryz.f133 = some F } := by
  refine ⟨?F, ?h⟩
  case h =>
    conv => lhs; cbv
theorem c133 : Cert 133 T133.1 := cert_of T133.2 Tryz.func133
-- suffrage/phragmen.Cost
noncomputable def T134 : { F : AFunc // CT.func [[0, 7, 8], [16, 17, 18], [1, 2, 3, 15, 19], [15, 21, 22, 23, 24, 25, 26, 27, 28, 29, 30, 31, 32, 33, 34, 35, 36], [1, 2, 3, 20, 37], [20, 38], [3, 39], [], [43, 44, 45, 46], [47, 48, 49], [11, 50, 51, 52, 53, 54, 55, 56, 57, 58, 59, 60, 61], [62], [1, 2, 9, 10, 12, 13, 14, 40, 41, 42, 63, 64, 65], [13, 63, 66, 67, 68, 69, 70, 71], [72], [1, 2, 9, 10, 12, 14, 40, 41, 42, 73, 74, 75], [12, 14, 73, 76, 77, 78, 79], [11, 12, 50, 80], [1, 2, 40, 41, 42, 43, 81], [9, 10, 82, 83], [9, 10, 82, 84, 85, 86, 87, 88, 89, 90], [91, 92, 93, 94]] Tryz.f134 = some F } := FN _ Tryz.f134 95 3 [.cell 6 3 false, .t 7, .t 8] (PC.seq ⟨_, by conv => lhs; cbv⟩ (PC.seq ⟨_, by conv => lhs; cbv⟩ (PC.seq ⟨_, by conv => lhs; cbv⟩ (PC.seq ⟨_, by conv => lhs; cbv⟩ ⟨_, by conv => lhs; cbv⟩))))
theorem c134 : Cert 134 T134.1 := cert_of T134.2 Tryz.func134
-- suffrage/phragmen.cheapest
noncomputable def T135 : { F : AFunc // CT.func [[1], [8], [3, 9], [6, 11, 27], [12, 13, 14], [], [15, 16], [17, 18, 19, 20, 21, 22, 23], [17, 24], [25], [7, 25, 26], [6, 27, 28, 29, 30, 31], [5, 10, 12, 32, 33], [0, 34, 35], [0, 34, 36, 37], [38]] Tryz.f135 = some F } := by
  refine ⟨?F, ?h⟩
  case h =>
    conv => lhs; cbv
theorem c135 : Cert 135 T135.1 := cert_of T135.2 Tryz.func135
-- suffrage/phragmen.elect
noncomputable def T136 : { F : AFunc // CT.func [[0], [8, 11, 12, 13, 14, 15, 16, 17, 18], [3, 19], [], [23, 24, 25, 26], [10, 27, 28, 29, 30, 31], [9, 32, 33, 34, 35, 36, 37], [9, 32, 38]] Tryz.f136 = some F } := by
  refine ⟨?F, ?h⟩
  case h =>
    conv => lhs; cbv
theorem c136 : Cert 136 T136.1 := cert_of T136.2 Tryz.func136
-- suffrage/phragmen.Count$1$1
noncomputable def T137 : { F : AFunc // CT.func [[3], [0, 1, 4, 5, 6]] Tryz.f137 = some F } := by
  refine ⟨?F, ?h⟩
  case h =>
    conv => lhs; cbv
theorem c137 : Cert 137 T137.1 := cert_of T137.2 Tryz.func137
-- suffrage/lists.count
noncomputable def T138 : { F : AFunc // CT.func [[0, 9], [14, 15, 16, 17], [18], [1, 2, 3, 4, 10, 19, 20, 21], [2, 10, 19, 22, 23], [4, 24, 25, 26, 27, 28], [1, 3, 29, 30, 31, 32, 33, 34, 35, 36, 37], [12, 13, 38, 39, 40, 41, 42, 43, 44, 45, 46, 47, 48, 49, 50, 51, 52, 53], [11, 54, 55, 56, 57]] Tryz.f138 = some F } := by
  refine ⟨?F, ?h⟩
  case h =>
    conv => lhs; cbv
theorem c138 : Cert 138 T138.1 := cert_of T138.2 Tryz.func138
-- suffrage/lists.DHondt$1
noncomputable def T139 : { F : AFunc // CT.func [[2], [0, 3, 4]] Tryz.f139 = some F } := by
  refine ⟨?F, ?h⟩
  case h =>
    conv => lhs; cbv
theorem c139 : Cert 139 T139.1 := cert_of T139.2 Tryz.func139
-- (suffrage/lists.method).allocate
noncomputable def T140 : { F : AFunc // CT.func [[0, 2], [12, 13, 14], [3], [], [17, 18, 19, 20, 21, 22], [10, 23, 24, 25], [26, 27, 28, 29, 30, 31], [11, 32, 33, 34, 35], [36], [1, 4, 6, 9, 15, 16, 17, 37]] Tryz.f140 = some F } := FN _ Tryz.f140 38 4 [.t 8] ⟨_, by conv => lhs; cbv⟩
theorem c140 : Cert 140 T140.1 := cert_of T140.2 Tryz.func140
-- suffrage/lists.Sainte$1
noncomputable def T141 : { F : AFunc // CT.func [[2], [0, 3, 4, 5]] Tryz.f141 = some F } := by
  refine ⟨?F, ?h⟩
  case h =>
    conv => lhs; cbv
theorem c141 : Cert 141 T141.1 := cert_of T141.2 Tryz.func141
-- suffrage/lists.remainders
noncomputable def T142 : { F : AFunc // CT.func [[], [], [], [], [18, 19, 20], [9, 21, 22, 23], [24], [15, 16, 17, 18, 25, 26, 27], [], [], [31, 32, 33, 34], [35], [36, 37, 38, 39, 40, 41, 42, 43, 44, 45, 46], [11, 12, 47, 48, 49, 50, 51, 52, 53, 54], [11, 12, 36, 55], [7, 28, 29, 30, 31], [56, 57, 58], [59, 60, 61], [62, 63, 64, 65], [62, 66, 67, 68, 69, 70], [71, 72, 73, 74], [14, 75, 76, 77], [0, 1, 2, 10, 13, 59, 78]] Tryz.f142 = some F } := by
  refine ⟨?F, ?h⟩
  case h =>
    conv => lhs; cbv
theorem c142 : Cert 142 T142.1 := cert_of T142.2 Tryz.func142
-- slices.AppendSeq[[]int,int]
noncomputable def T143 : { F : AFunc // CT.func [[0, 4], [1], [6, 7], [2, 5, 8, 9, 10, 11], [2, 6, 12]] Tryz.f143 = some F } := by
  refine ⟨?F, ?h⟩
  case h =>
    conv => lhs; cbv
theorem c143 : Cert 143 T143.1 := cert_of T143.2 Tryz.func143
-- slices.siftDownOrdered[int]
noncomputable def T144 : { F : AFunc // CT.func [[1, 10], [11, 12, 13], [14, 15], [16, 17, 18, 19, 20, 21, 22, 23, 24, 25, 26, 27, 28, 29, 30, 31, 32, 33, 34, 35], [36, 37, 38], [36, 39, 40, 41, 42, 43, 44, 45, 46, 47, 48, 49, 50, 51], [8, 52, 53, 54, 55, 56, 57, 58, 59, 60, 61, 62, 63, 64, 65, 66, 67, 68, 69, 70, 71, 72, 73, 74], [9, 75]] Tryz.f144 = some F } := by
  refine ⟨?F, ?h⟩
  case h =>
    conv => lhs; cbv
theorem c144 : Cert 144 T144.1 := cert_of T144.2 Tryz.func144
-- slices.nextPowerOfTwo
noncomputable def T145 : { F : AFunc // CT.func [[2], [0, 3, 4, 5, 6]] Tryz.f145 = some F } := by
  refine ⟨?F, ?h⟩
  case h =>
    conv => lhs; cbv
theorem c145 : Cert 145 T145.1 := cert_of T145.2 Tryz.func145
-- (*slices.xorshift).Next
noncomputable def T146 : { F : AFunc // CT.func [[2], [3, 4, 5, 6, 7, 8, 9, 10, 11], [12, 13, 14, 15, 16, 17, 18, 19, 20], [21, 22, 23, 24, 25, 26, 27, 28, 29], [0, 30, 31, 32]] Tryz.f146 = some F } := by
  refine ⟨?F, ?h⟩
  case h =>
    conv => lhs; cbv
theorem c146 : Cert 146 T146.1 := cert_of T146.2 Tryz.func146
-- slices.medianAdjacentOrdered[int]
noncomputable def T147 : { F : AFunc // CT.func [[6], [0, 1, 2, 7, 8, 9, 10, 11, 12, 13, 14]] Tryz.f147 = some F } := by
  refine ⟨?F, ?h⟩
  case h =>
    conv => lhs; cbv
theorem c147 : Cert 147 T147.1 := cert_of T147.2 Tryz.func147
-- slices.medianOrdered[int]
noncomputable def T148 : { F : AFunc // CT.func [[10], [11, 12, 13, 14, 15, 16, 17, 18], [3, 19, 20, 21, 22, 23, 24, 25, 26], [0, 1, 4, 27, 28, 29, 30, 31, 32, 33, 34], [2, 35]] Tryz.f148 = some F } := by
  refine ⟨?F, ?h⟩
  case h =>
    conv => lhs; cbv
theorem c148 : Cert 148 T148.1 := cert_of T148.2 Tryz.func148
-- cmp.isNaN[int]
noncomputable def T149 : { F : AFunc // CT.func [[2], [0, 3, 4, 5]] Tryz.f149 = some F } := by
  refine ⟨?F, ?h⟩
  case h =>
    conv => lhs; cbv
theorem c149 : Cert 149 T149.1 := cert_of T149.2 Tryz.func149
end Go.Proofs.YtkpfhnicdlgjiaaGreat
