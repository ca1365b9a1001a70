/- The functions in the abstract language, worked out by Lean. -/
import Derived.Test.YtncdaicaljpgfaaGreatAlPc
set_option linter.unusedVariables false
set_option maxHeartbeats 1000000
set_option maxRecDepth 100000
namespace Go.Proofs.YtncdaicaljpgfaaGreat
-- slices.Contains[[]int,int]
noncomputable def T64 : { F : AFunc // CT.func [[4], [0, 1, 5, 6, 7, 8]] Tryz.f64 = some F } := by
  refine ⟨?F, ?h⟩
  case h =>
    conv => lhs; cbv
theorem c64 : Cert 64 T64.1 := cert_of T64.2 Tryz.func64
-- suffrage/margin.had
noncomputable def T65 : { F : AFunc // CT.func [[0, 4], [1, 2, 6, 7, 8, 9, 10, 11, 12, 13, 14, 15], [5, 16]] Tryz.f65 = some F } := by
  refine ⟨?F, ?h⟩
  case h =>
    conv => lhs; cbv
theorem c65 : Cert 65 T65.1 := cert_of T65.2 Tryz.func65
-- suffrage/margin.before
noncomputable def T66 : { F : AFunc // CT.func [[6], [0, 1, 2, 7, 8, 9, 10, 11, 12], [13], [13]] Tryz.f66 = some F } := by
  refine ⟨?F, ?h⟩
  case h =>
    conv => lhs; cbv
theorem c66 : Cert 66 T66.1 := cert_of T66.2 Tryz.func66
-- (suffrage/margin.election).shares
noncomputable def T67 : { F : AFunc // CT.func [[0], [2, 7, 8], [], [12, 13, 14], [6, 15, 16, 17, 18, 19, 20, 21, 22, 23, 24], [25], [1, 9, 10, 11, 12, 26]] Tryz.f67 = some F } := by
  refine ⟨?F, ?h⟩
  case h =>
    conv => lhs; cbv
theorem c67 : Cert 67 T67.1 := cert_of T67.2 Tryz.func67
-- (suffrage/margin.election).points$1$1
noncomputable def T68 : { F : AFunc // CT.func [[5], [0, 1, 2, 3, 6, 7, 8, 9, 10, 11, 12, 13, 14, 15]] Tryz.f68 = some F } := by
  refine ⟨?F, ?h⟩
  case h =>
    conv => lhs; cbv
theorem c68 : Cert 68 T68.1 := cert_of T68.2 Tryz.func68
-- suffrage/count.Seats
noncomputable def T69 : { F : AFunc // CT.func [[0, 4, 5], [9, 10, 11, 12, 13], [1, 2, 14], [14, 15, 16], [2, 17], [], [21, 22, 23], [24, 25, 26, 27, 28, 29], [1, 6, 8, 18, 19, 20, 30], [8, 30, 31, 32, 33, 34, 35, 36], [37], [1, 6, 18, 19, 20, 21, 38]] Tryz.f69 = some F } := by
  refine ⟨?F, ?h⟩
  case h =>
    conv => lhs; cbv
theorem c69 : Cert 69 T69.1 := cert_of T69.2 Tryz.func69
-- (suffrage/margin.election).quotients$1
noncomputable def T70 : { F : AFunc // CT.func [[3], [1, 4, 5, 6], [0, 7, 8, 9, 10], [0, 7, 11]] Tryz.f70 = some F } := by
  refine ⟨?F, ?h⟩
  case h =>
    conv => lhs; cbv
theorem c70 : Cert 70 T70.1 := cert_of T70.2 Tryz.func70
-- (suffrage/margin.election).quotients$2
noncomputable def T71 : { F : AFunc // CT.func [[], [], [16, 17, 18, 19], [], [], [23, 24, 25, 26], [27, 28, 29, 30, 31, 32], [8, 33, 34, 35, 36, 37, 38, 39, 40], [41, 42, 43, 44, 45, 46, 47, 48, 49, 50, 51, 52, 53, 54, 55, 56, 57, 58, 59, 60, 61, 62, 63, 64, 65], [7, 9, 10, 66], [11, 12, 67, 68, 69, 70, 71, 72], [7, 8, 33, 73, 74], [5, 6, 20, 21, 22, 23, 75]] Tryz.f71 = some F } := by
  refine ⟨?F, ?h⟩
  case h =>
    conv => lhs; cbv
theorem c71 : Cert 71 T71.1 := cert_of T71.2 Tryz.func71
-- (suffrage/margin.election).quotients$2$1
noncomputable def T72 : { F : AFunc // CT.func [[6], [1, 8, 9, 10, 11, 12, 13, 14, 15, 16, 17], [0, 2, 3, 4, 7, 18, 19, 20], [0, 3, 4, 7, 22, 23, 24, 25, 26, 27, 28, 29, 30, 31], [2, 21], [2, 21, 32]] Tryz.f72 = some F } := by
  refine ⟨?F, ?h⟩
  case h =>
    conv => lhs; cbv
theorem c72 : Cert 72 T72.1 := cert_of T72.2 Tryz.func72
-- suffrage/pairs.Of
noncomputable def T73 : { F : AFunc // CT.func [[0, 3], [9, 10], [11], [1, 12, 13, 14], [3, 12, 15], [], [19, 20, 21], [22, 23, 24, 25, 26], [27], [], [30, 31], [32], [], [35, 36], [37, 38, 39], [8, 40, 41, 42, 43, 44, 45, 46, 47, 48, 49, 50], [8, 40, 51], [7, 33, 34, 35, 52], [5, 6, 28, 29, 30, 53], [1, 16, 17, 18, 19, 54]] Tryz.f73 = some F } := by
  refine ⟨?F, ?h⟩
  case h =>
    conv => lhs; cbv
theorem c73 : Cert 73 T73.1 := cert_of T73.2 Tryz.func73
-- suffrage/condorcet.Winner
noncomputable def T74 : { F : AFunc // CT.func [[0, 4, 5], [1, 2, 6, 7, 8, 9, 10]] Tryz.f74 = some F } := by
  refine ⟨?F, ?h⟩
  case h =>
    conv => lhs; cbv
theorem c74 : Cert 74 T74.1 := cert_of T74.2 Tryz.func74
-- suffrage/pairs.Margin
noncomputable def T75 : { F : AFunc // CT.func [[0, 6], [7, 8, 9, 10, 11, 12, 13, 14, 15, 16, 17, 18], [1, 2, 3, 19], [1, 2, 3, 19, 20, 21, 22, 23, 24, 25, 26, 27, 28, 29, 30]] Tryz.f75 = some F } := by
  refine ⟨?F, ?h⟩
  case h =>
    conv => lhs; cbv
theorem c75 : Cert 75 T75.1 := cert_of T75.2 Tryz.func75
-- suffrage/margin.half
noncomputable def T76 : { F : AFunc // CT.func [[2], [0, 3, 4, 5]] Tryz.f76 = some F } := by
  refine ⟨?F, ?h⟩
  case h =>
    conv => lhs; cbv
theorem c76 : Cert 76 T76.1 := cert_of T76.2 Tryz.func76
-- slices.IsSorted[[]int,int]
noncomputable def T77 : { F : AFunc // CT.func [[2], [4, 5, 6], [7], [9, 10, 20], [8, 11, 12, 13, 14, 15, 16, 17, 18, 19], [0, 3, 20], [0, 3, 8]] Tryz.f77 = some F } := by
  refine ⟨?F, ?h⟩
  case h =>
    conv => lhs; cbv
theorem c77 : Cert 77 T77.1 := cert_of T77.2 Tryz.func77
-- slices.Index[[]int,int]
noncomputable def T78 : { F : AFunc // CT.func [[4], [6], [], [9, 10], [11, 12, 13, 14, 15], [0, 1, 5, 7, 8, 16, 17], [5, 16, 18], [0, 1, 7, 8, 9]] Tryz.f78 = some F } := by
  refine ⟨?F, ?h⟩
  case h =>
    conv => lhs; cbv
theorem c78 : Cert 78 T78.1 := cert_of T78.2 Tryz.func78
-- slices.pdqsortCmpFunc[suffrage/margin.share]
noncomputable def T80 : { F : AFunc // CT.func [[], [], [21, 22, 23], [24], [0, 1, 2, 3, 4, 10, 11, 12, 25, 26, 27, 28, 29, 30], [25, 31], [0, 1, 2, 3, 4, 10, 11, 12, 32, 33, 34, 35, 36, 37], [32, 38], [39, 40, 41, 42, 43, 44], [45, 46], [39, 47, 48, 49, 50, 51, 52, 53, 54], [55], [14, 56, 57, 58, 59, 60, 61], [62, 63, 64, 65, 66, 67], [], [14, 56, 68, 69, 70, 71, 72, 73, 74], [75, 76, 77, 78, 79], [75, 80, 81, 82, 83, 84, 85, 86, 87, 88, 89, 90, 91, 92, 93, 94, 95, 96], [1, 12, 13, 97, 98, 99, 100, 101, 102, 103], [15, 104], [10, 11, 13, 97, 105, 106, 107, 108, 109, 110, 111, 112, 113], [17, 114], [115, 116, 117, 118, 119, 120], [12, 121, 122], [123, 124], [18, 19, 20, 125, 126, 127, 128], [1, 129, 130, 131, 132, 133, 134], [16, 135, 136], [18, 19, 20, 125, 137, 138, 139], [2, 140, 141, 142, 143, 144, 145, 146], [16, 147]] Tryz.f80 = some F } := FN _ Tryz.f80 148 5 [] (PC.seq ⟨_, by conv => lhs; cbv⟩ (PC.seq ⟨_, by conv => lhs; cbv⟩ (PC.block 0 (PC.loop (PC.block 1 (PC.seq ⟨_, by conv => lhs; cbv⟩ (PC.seq ⟨_, by conv => lhs; cbv⟩ (PC.seq ⟨_, by conv => lhs; cbv⟩ (PC.seq ⟨_, by conv => lhs; cbv⟩ (PC.seq ⟨_, by conv => lhs; cbv⟩ (PC.seq ⟨_, by conv => lhs; cbv⟩ (PC.seq ⟨_, by conv => lhs; cbv⟩ (PC.seq ⟨_, by conv => lhs; cbv⟩ ⟨_, by conv => lhs; cbv⟩)))))))))))))
theorem c80 : Cert 80 T80.1 := cert_of T80.2 Tryz.func80
-- math/bits.Len
noncomputable def T81 : { F : AFunc // CT.func [[2], [0, 3, 4, 5], [0, 6, 7]] Tryz.f81 = some F } := by
  refine ⟨?F, ?h⟩
  case h =>
    conv => lhs; cbv
theorem c81 : Cert 81 T81.1 := cert_of T81.2 Tryz.func81
-- cmp.isNaN[int]
noncomputable def T82 : { F : AFunc // CT.func [[2], [0, 3, 4, 5]] Tryz.f82 = some F } := by
  refine ⟨?F, ?h⟩
  case h =>
    conv => lhs; cbv
theorem c82 : Cert 82 T82.1 := cert_of T82.2 Tryz.func82
-- suffrage/choose.Check
noncomputable def T83 : { F : AFunc // CT.func [[0, 10], [1, 12, 13, 14, 15, 16, 17, 18, 19, 20], [2, 3, 4, 5, 11], [2, 3, 4, 5, 11, 22, 23, 24, 25, 26, 27, 28, 29, 30, 31, 32, 33, 34, 35, 36], [21], [21]] Tryz.f83 = some F } := by
  refine ⟨?F, ?h⟩
  case h =>
    conv => lhs; cbv
theorem c83 : Cert 83 T83.1 := cert_of T83.2 Tryz.func83
-- suffrage/choose.Of
noncomputable def T84 : { F : AFunc // CT.func [[2], [0, 3, 4, 5, 6]] Tryz.f84 = some F } := by
  refine ⟨?F, ?h⟩
  case h =>
    conv => lhs; cbv
theorem c84 : Cert 84 T84.1 := cert_of T84.2 Tryz.func84
-- (*suffrage/choose.Count).One
noncomputable def T85 : { F : AFunc // CT.func [[], [3, 9, 10, 11, 12, 13, 14, 15, 16], [1, 2, 17, 18, 19, 20, 21, 22, 23, 24, 25, 26, 27, 28, 29, 30, 31, 32], [0, 33, 34, 35, 36]] Tryz.f85 = some F } := by
  refine ⟨?F, ?h⟩
  case h =>
    conv => lhs; cbv
theorem c85 : Cert 85 T85.1 := cert_of T85.2 Tryz.func85
-- suffrage/suffrageref03.Both
noncomputable def T86 : { F : AFunc // CT.func [[4], [0, 6, 7], [8], [1, 5, 9, 10], [1, 5, 9, 11, 12]] Tryz.f86 = some F } := by
  refine ⟨?F, ?h⟩
  case h =>
    conv => lhs; cbv
theorem c86 : Cert 86 T86.1 := cert_of T86.2 Tryz.func86
-- suffrage/suffrageref03.Gcd
noncomputable def T87 : { F : AFunc // CT.func [[4, 5], [14, 15, 16], [17], [0, 1, 6, 18, 19], [0, 1, 6, 18, 20, 21, 22, 23], [24, 25, 26, 27, 28, 29, 30], [31, 32, 33, 34, 35, 36, 37, 38, 39, 40, 41], [42, 43, 44, 64], [46, 47, 48, 49], [10, 11, 45, 50, 51, 52, 53], [54, 55], [10, 45, 57], [11, 56, 58, 59], [11, 56, 61], [60, 62, 63], [60, 65, 66, 67], [64, 68, 69, 70], [7, 8, 31, 71, 72, 73], [], [74, 75], [77, 78], [76, 79, 80, 81], [9, 12, 13, 76, 82]] Tryz.f87 = some F } := by
  refine ⟨?F, ?h⟩
  case h =>
    conv => lhs; cbv
theorem c87 : Cert 87 T87.1 := cert_of T87.2 Tryz.func87
-- suffrage/suffrageref03.Same
noncomputable def T88 : { F : AFunc // CT.func [[4], [6, 7, 8, 9], [0, 1, 10], [10], [11, 12, 13], [15, 16, 25], [14, 17, 18, 19, 20, 21, 22, 23, 24], [0, 1, 5, 25], [0, 1, 5, 14]] Tryz.f88 = some F } := by
  refine ⟨?F, ?h⟩
  case h =>
    conv => lhs; cbv
theorem c88 : Cert 88 T88.1 := cert_of T88.2 Tryz.func88
-- suffrage/suffrageref03.plus
noncomputable def T89 : { F : AFunc // CT.func [[4], [], [], [], [9, 10, 11, 12, 13, 14, 15, 16, 17, 18, 19, 20, 21], [23, 24], [6, 22, 25, 26, 27, 28, 29, 30, 31, 32, 33], [34, 35, 36, 37, 38, 39], [8, 40, 41], [0, 1, 5, 6, 7, 22, 42, 43]] Tryz.f89 = some F } := by
  refine ⟨?F, ?h⟩
  case h =>
    conv => lhs; cbv
theorem c89 : Cert 89 T89.1 := cert_of T89.2 Tryz.func89
-- suffrage/suffrageref03.less
noncomputable def T90 : { F : AFunc // CT.func [[4], [6, 7, 8, 9], [0, 1, 10, 11, 12, 13, 14, 15], [10, 16, 17, 18], [19], [21, 22, 31], [20, 23, 24, 25, 26, 27, 28, 29, 30], [0, 1, 5, 31, 32, 33, 34, 35, 36, 37, 38, 39, 40], [0, 1, 5, 20]] Tryz.f90 = some F } := by
  refine ⟨?F, ?h⟩
  case h =>
    conv => lhs; cbv
theorem c90 : Cert 90 T90.1 := cert_of T90.2 Tryz.func90
-- suffrage/suffrageref03.minus
noncomputable def T91 : { F : AFunc // CT.func [[4], [], [], [], [9, 10, 11], [13, 14], [6, 12, 15, 16, 17, 18, 19, 20, 21, 22, 23, 24], [25, 26, 27, 28, 29, 30], [8, 31, 32, 33], [0, 1, 5, 6, 7, 12, 34, 35]] Tryz.f91 = some F } := by
  refine ⟨?F, ?h⟩
  case h =>
    conv => lhs; cbv
theorem c91 : Cert 91 T91.1 := cert_of T91.2 Tryz.func91
-- suffrage/suffrageref03.Trim
noncomputable def T92 : { F : AFunc // CT.func [[2], [0, 4, 5, 6], [7, 8, 9, 10, 11, 12, 13, 14, 15, 16, 17], [18, 19, 20, 21, 22, 23], [3, 18, 24]] Tryz.f92 = some F } := by
  refine ⟨?F, ?h⟩
  case h =>
    conv => lhs; cbv
theorem c92 : Cert 92 T92.1 := cert_of T92.2 Tryz.func92
-- suffrage/suffrageref03.Check
noncomputable def T93 : { F : AFunc // CT.func [[2], [3, 4], [0, 5], [0, 5, 6, 7, 8, 9, 10, 11, 12, 13, 14, 15, 16], [17], [17]] Tryz.f93 = some F } := by
  refine ⟨?F, ?h⟩
  case h =>
    conv => lhs; cbv
theorem c93 : Cert 93 T93.1 := cert_of T93.2 Tryz.func93
-- suffrage/contest.odd
noncomputable def T94 : { F : AFunc // CT.func [[2], [0, 3, 4]] Tryz.f94 = some F } := by
  refine ⟨?F, ?h⟩
  case h =>
    conv => lhs; cbv
theorem c94 : Cert 94 T94.1 := cert_of T94.2 Tryz.func94
-- suffrage/contest.twice
noncomputable def T95 : { F : AFunc // CT.func [[2], [], [], [8, 9, 10, 11], [3, 4, 12, 13, 14, 15], [0, 5, 6, 7, 16], [16, 17], [0, 5, 6, 7, 8]] Tryz.f95 = some F } := by
  refine ⟨?F, ?h⟩
  case h =>
    conv => lhs; cbv
theorem c95 : Cert 95 T95.1 := cert_of T95.2 Tryz.func95
-- suffrage/contest.fits
noncomputable def T96 : { F : AFunc // CT.func [[0, 2], [3, 4, 5, 6, 7, 8, 9], [1, 10], [10, 11, 12, 13], [16], [1, 14, 15, 17, 18, 19], [15, 21], [1, 14, 20, 22, 23, 24, 25, 26, 27], [1, 14, 20, 29], [28], [28]] Tryz.f96 = some F } := by
  refine ⟨?F, ?h⟩
  case h =>
    conv => lhs; cbv
theorem c96 : Cert 96 T96.1 := cert_of T96.2 Tryz.func96
-- suffrage/profile.all[suffrage/api.Row]
noncomputable def T97 : { F : AFunc // CT.func [[4], [], [], [10, 11, 12, 13], [5, 6, 14, 15, 16, 17, 18, 19, 20, 21, 22], [0, 1, 7, 8, 9, 23], [23, 24], [0, 1, 7, 8, 9, 10]] Tryz.f97 = some F } := by
  refine ⟨?F, ?h⟩
  case h =>
    conv => lhs; cbv
theorem c97 : Cert 97 T97.1 := cert_of T97.2 Tryz.func97
-- suffrage/profile.Check$1
noncomputable def T98 : { F : AFunc // CT.func [[0, 1, 7], [5, 8, 9, 10, 11, 12, 13, 14, 15, 16], [2, 3, 4, 6, 17], [2, 17], [3, 18, 19, 20, 21, 22, 23], [4, 6, 24, 25, 26, 27, 28, 29, 30, 31, 32, 33, 34, 35]] Tryz.f98 = some F } := by
  refine ⟨?F, ?h⟩
  case h =>
    conv => lhs; cbv
theorem c98 : Cert 98 T98.1 := cert_of T98.2 Tryz.func98
-- slices.Compare[[]int,int]
noncomputable def T99 : { F : AFunc // CT.func [[4], [], [], [12, 13, 14, 15], [16, 17, 18], [0, 1, 5, 6, 9, 10, 11, 19], [5, 19, 20, 21, 22, 23], [6, 7, 24, 25, 26], [27], [0, 1, 8, 9, 10, 11, 28, 29], [8, 28, 30], [0, 1, 9, 10, 11, 12, 31, 32, 33, 34], [35], [35]] Tryz.f99 = some F } := by
  refine ⟨?F, ?h⟩
  case h =>
    conv => lhs; cbv
theorem c99 : Cert 99 T99.1 := cert_of T99.2 Tryz.func99
-- suffrage/profile.of
noncomputable def T100 : { F : AFunc // CT.func [[0, 1], [2, 3, 5, 6, 7, 8, 9]] Tryz.f100 = some F } := by
  refine ⟨?F, ?h⟩
  case h =>
    conv => lhs; cbv
theorem c100 : Cert 100 T100.1 := cert_of T100.2 Tryz.func100
-- suffrage/profile.New
noncomputable def T101 : { F : AFunc // CT.func [[5], [6, 7, 8, 9, 10, 11, 12, 13, 14, 15, 16, 17, 18], [0, 1, 19, 20], [0, 1, 19, 21, 22, 23]] Tryz.f101 = some F } := by
  refine ⟨?F, ?h⟩
  case h =>
    conv => lhs; cbv
theorem c101 : Cert 101 T101.1 := cert_of T101.2 Tryz.func101
-- suffrage/contest.of
noncomputable def T102 : { F : AFunc // CT.func [[], [4], [5, 6], [0, 3, 7, 8, 9, 10], [0, 3, 7, 11]] Tryz.f102 = some F } := by
  refine ⟨?F, ?h⟩
  case h =>
    conv => lhs; cbv
theorem c102 : Cert 102 T102.1 := cert_of T102.2 Tryz.func102
-- suffrage/condorcet.Copeland
noncomputable def T103 : { F : AFunc // CT.func [[0, 7], [9], [1, 2, 3, 8, 10, 11, 12, 13, 14, 15, 16]] Tryz.f103 = some F } := by
  refine ⟨?F, ?h⟩
  case h =>
    conv => lhs; cbv
theorem c103 : Cert 103 T103.1 := cert_of T103.2 Tryz.func103
-- suffrage/condorcet.Minimax
noncomputable def T104 : { F : AFunc // CT.func [[0, 7], [9], [1, 2, 3, 8, 10, 11, 12, 13, 14, 15, 16]] Tryz.f104 = some F } := by
  refine ⟨?F, ?h⟩
  case h =>
    conv => lhs; cbv
theorem c104 : Cert 104 T104.1 := cert_of T104.2 Tryz.func104
-- suffrage/paths.Count
noncomputable def T105 : { F : AFunc // CT.func [[0, 7], [1, 18, 19, 20, 21], [22], [2, 3, 8, 23, 24, 25], [8, 10, 23, 26, 27, 28, 29, 30], [9, 12, 31, 32, 33, 34, 35, 36, 37], [38, 39, 40], [41], [], [44, 45], [46], [], [49, 50], [15, 51, 52, 53, 54, 55, 56, 57, 58, 59, 60, 61, 62, 63, 64, 65], [66, 67, 68, 69, 70, 71, 72], [66, 73], [14, 47, 48, 49, 74], [2, 11, 42, 43, 44, 75, 76], [3, 77, 78, 79, 80, 81, 82, 83], [84, 85, 86, 87, 88, 89], [13, 17, 90, 91, 92, 93, 94, 95, 96, 97, 98, 99, 100], [16, 101, 102, 103, 104]] Tryz.f105 = some F } := FN _ Tryz.f105 105 3 [.cell 6 3 false, .t 7] (PC.seq ⟨_, by conv => lhs; cbv⟩ (PC.seq ⟨_, by conv => lhs; cbv⟩ (PC.seq ⟨_, by conv => lhs; cbv⟩ (PC.seq ⟨_, by conv => lhs; cbv⟩ (PC.seq ⟨_, by conv => lhs; cbv⟩ (PC.seq ⟨_, by conv => lhs; cbv⟩ ⟨_, by conv => lhs; cbv⟩))))))
theorem c105 : Cert 105 T105.1 := cert_of T105.2 Tryz.func105
-- suffrage/ranked.Count
noncomputable def T106 : { F : AFunc // CT.func [[0, 7], [1, 19, 20, 21, 22], [23], [2, 3, 8, 24, 25, 26], [8, 10, 24, 27, 28, 29, 30, 31], [9, 12, 32, 33, 34, 35, 36, 37, 38, 39], [3, 40, 41, 42, 43, 44, 45], [], [], [49, 50, 51, 52], [15, 53, 54, 55, 56, 57], [58, 59, 60, 61, 62, 63, 64, 65], [16, 58, 66, 67, 68], [69], [2, 11, 46, 47, 48, 49, 70, 71], [14, 72, 73, 74], [75, 76, 77, 78, 79, 80], [13, 18, 81, 82, 83, 84, 85, 86, 87, 88, 89, 90, 91], [17, 92, 93, 94, 95]] Tryz.f106 = some F } := FN _ Tryz.f106 96 3 [.cell 6 3 false, .t 7] (PC.seq ⟨_, by conv => lhs; cbv⟩ (PC.seq ⟨_, by conv => lhs; cbv⟩ (PC.seq ⟨_, by conv => lhs; cbv⟩ (PC.seq ⟨_, by conv => lhs; cbv⟩ (PC.seq ⟨_, by conv => lhs; cbv⟩ (PC.seq ⟨_, by conv => lhs; cbv⟩ ⟨_, by conv => lhs; cbv⟩))))))
theorem c106 : Cert 106 T106.1 := cert_of T106.2 Tryz.func106
-- suffrage/runoff.Count
noncomputable def T107 : { F : AFunc // CT.func [[0, 7], [1, 10, 11, 12, 13], [14], [2, 3, 8, 15, 16, 17], [2, 3, 8, 15, 18, 19, 20, 21, 22, 23, 24, 25], [26, 27], [9, 28, 29, 30, 31, 32, 33, 34, 35]] Tryz.f107 = some F } := by
  refine ⟨?F, ?h⟩
  case h =>
    conv => lhs; cbv
theorem c107 : Cert 107 T107.1 := cert_of T107.2 Tryz.func107
-- suffrage/coombs.Count
noncomputable def T108 : { F : AFunc // CT.func [[0, 7], [1, 9, 10, 11, 12], [13], [2, 3, 8, 14, 15, 16], [2, 3, 8, 14, 17, 18, 19, 20, 21, 22]] Tryz.f108 = some F } := by
  refine ⟨?F, ?h⟩
  case h =>
    conv => lhs; cbv
theorem c108 : Cert 108 T108.1 := cert_of T108.2 Tryz.func108
-- suffrage/gregory.Count
noncomputable def T109 : { F : AFunc // CT.func [[0, 7], [14, 15, 16, 17, 18, 19], [20], [1, 2, 3, 8, 21, 22, 23], [8, 10, 21, 24, 25, 26, 27, 28, 29], [2, 9, 30, 31, 32, 33, 34, 35, 36], [37, 38, 39, 40, 41, 42, 43, 44], [45], [], [49, 50, 51], [13, 52, 53, 54, 55, 56, 57, 58, 59, 60, 61, 62, 63, 64, 65], [66], [3, 46, 47, 48, 49, 67], [], [70, 71, 72, 73, 74, 75, 76, 77, 78, 79, 80, 81], [82], [68, 69, 70, 83, 84, 85, 86, 87, 88, 89, 90, 91, 92], [93, 94, 95], [1, 11, 93, 96, 97, 98, 99, 100, 101, 102]] Tryz.f109 = some F } := FN _ Tryz.f109 103 3 [.cell 6 3 false, .t 7] (PC.seq ⟨_, by conv => lhs; cbv⟩ (PC.seq ⟨_, by conv => lhs; cbv⟩ (PC.seq ⟨_, by conv => lhs; cbv⟩ (PC.seq ⟨_, by conv => lhs; cbv⟩ (PC.seq ⟨_, by conv => lhs; cbv⟩ (PC.seq ⟨_, by conv => lhs; cbv⟩ ⟨_, by conv => lhs; cbv⟩))))))
theorem c109 : Cert 109 T109.1 := cert_of T109.2 Tryz.func109
-- suffrage/meek.Count
noncomputable def T110 : { F : AFunc // CT.func [[0, 7], [13, 14, 15, 16, 17, 18], [19], [1, 2, 3, 8, 20, 21, 22], [2, 8, 20, 23, 24, 25, 26, 27, 28, 29, 30, 31], [32, 33, 34, 35, 36, 37, 38, 39], [3, 40], [], [43, 44, 45, 46, 47, 48, 49, 50, 51, 52], [53], [41, 42, 43, 54], [55, 56, 57, 58, 59, 60, 61, 62, 63, 64], [65, 66, 67, 68, 69, 70, 71, 72], [73, 74, 75, 76, 77], [], [], [77, 78], [12, 79, 80], [81, 82], [75, 76, 81, 83, 84, 85, 86, 87, 88, 89, 90, 91, 92, 93, 94, 95, 96, 97, 98, 99, 100, 101, 102, 103], [104, 105, 106, 107, 108, 109, 110, 111, 112, 113, 114, 115, 116, 117, 118, 119, 120, 121, 122, 123, 124], [1, 9, 10, 65, 125, 126, 127, 128, 129, 130, 131]] Tryz.f110 = some F } := FN _ Tryz.f110 132 3 [.cell 6 3 false, .t 7] (PC.seq ⟨_, by conv => lhs; cbv⟩ (PC.seq ⟨_, by conv => lhs; cbv⟩ (PC.seq ⟨_, by conv => lhs; cbv⟩ (PC.seq ⟨_, by conv => lhs; cbv⟩ (PC.seq ⟨_, by conv => lhs; cbv⟩ (PC.seq ⟨_, by conv => lhs; cbv⟩ (PC.seq (PC.block 2 (PC.loop (PC.seq ⟨_, by conv => lhs; cbv⟩ (PC.block 3 (PC.scope (PC.seq ⟨_, by conv => lhs; cbv⟩ (PC.seq ⟨_, by conv => lhs; cbv⟩ (PC.seq ⟨_, by conv => lhs; cbv⟩ ⟨_, by conv => lhs; cbv⟩)))))))) ⟨_, by conv => lhs; cbv⟩)))))))
theorem c110 : Cert 110 T110.1 := cert_of T110.2 Tryz.func110
-- suffrage/phragmen.Count
noncomputable def T111 : { F : AFunc // CT.func [[0, 7], [17, 18, 19, 20, 21, 22], [23], [1, 2, 3, 8, 24, 25, 26], [2, 8, 24, 27, 28, 29, 30, 31, 32, 33, 34, 35], [13, 36, 37, 38, 39, 40], [15, 41, 42, 43, 44, 45], [3, 10, 11, 12, 14, 46], [1], [], [49, 50, 51, 52, 53, 54, 55, 56, 57, 58, 59, 60, 61, 62], [63], [9, 16, 47, 48, 49, 64, 65, 66, 67]] Tryz.f111 = some F } := by
  refine ⟨?F, ?h⟩
  case h =>
    conv => lhs; cbv
theorem c111 : Cert 111 T111.1 := cert_of T111.2 Tryz.func111
-- suffrage/lists.DHondt
noncomputable def T112 : { F : AFunc // CT.func [[0, 7], [1, 2, 3, 8, 9, 10, 11, 12, 13, 14, 15]] Tryz.f112 = some F } := by
  refine ⟨?F, ?h⟩
  case h =>
    conv => lhs; cbv
theorem c112 : Cert 112 T112.1 := cert_of T112.2 Tryz.func112
-- suffrage/lists.Sainte
noncomputable def T113 : { F : AFunc // CT.func [[0, 7], [1, 2, 3, 8, 9, 10, 11, 12, 13, 14, 15]] Tryz.f113 = some F } := by
  refine ⟨?F, ?h⟩
  case h =>
    conv => lhs; cbv
theorem c113 : Cert 113 T113.1 := cert_of T113.2 Tryz.func113
-- suffrage/lists.Hare
noncomputable def T114 : { F : AFunc // CT.func [[0, 7], [1, 2, 3, 8, 9, 10, 11, 12, 13]] Tryz.f114 = some F } := by
  refine ⟨?F, ?h⟩
  case h =>
    conv => lhs; cbv
theorem c114 : Cert 114 T114.1 := cert_of T114.2 Tryz.func114
-- suffrage/profile.count
noncomputable def T115 : { F : AFunc // CT.func [[0, 5], [8, 9], [10], [1, 2, 11, 12], [2, 5, 11, 13], [], [17, 18, 19], [20, 21], [7, 22, 23, 24, 25, 26], [7, 22, 27], [1, 14, 15, 16, 17, 28]] Tryz.f115 = some F } := by
  refine ⟨?F, ?h⟩
  case h =>
    conv => lhs; cbv
theorem c115 : Cert 115 T115.1 := cert_of T115.2 Tryz.func115
-- suffrage/profile.Many$1
noncomputable def T116 : { F : AFunc // CT.func [[0, 1, 2], []] Tryz.f116 = some F } := by
  refine ⟨?F, ?h⟩
  case h =>
    conv => lhs; cbv
theorem c116 : Cert 116 T116.1 := cert_of T116.2 Tryz.func116
-- suffrage/ratio.Floor
noncomputable def T117 : { F : AFunc // CT.func [[0, 2, 3], [9, 10], [1, 11], [6, 11, 12, 13, 14, 15, 16, 17, 18, 19, 20], [4, 21, 22, 23, 24, 25], [8, 26, 27, 28, 29, 30, 31, 32, 33, 34, 35, 36, 37, 38, 39, 40, 41, 42, 43, 44, 45, 46, 47, 48, 49, 50, 51, 52], [1, 5, 7, 53], [1, 53, 54, 55], [5, 7, 56, 57, 58], [5, 56, 59, 60], [61, 62, 63], [7, 61, 64, 65, 66]] Tryz.f117 = some F } := by
  refine ⟨?F, ?h⟩
  case h =>
    conv => lhs; cbv
theorem c117 : Cert 117 T117.1 := cert_of T117.2 Tryz.func117
-- suffrage/ballot.Prefers
noncomputable def T118 : { F : AFunc // CT.func [[0, 6], [9, 10, 11, 12, 13], [1, 2, 3, 14], [14, 15, 16, 17, 18, 19, 20, 21, 22], [23], [26], [1, 2, 3, 7, 8, 24, 25, 27, 28, 29, 30, 31, 32, 33, 34, 35, 36, 37], [25, 39], [1, 2, 3, 7, 8, 24, 38, 40, 41, 42, 43, 44, 45], [7, 8, 24, 38, 47], [1, 2, 3, 46, 48, 49, 50, 51, 52, 53, 54, 55, 56, 57, 58, 59, 60, 61, 62, 63, 64, 65, 66, 67, 68, 69, 70, 71, 72], [1, 2, 3, 46]] Tryz.f118 = some F } := by
  refine ⟨?F, ?h⟩
  case h =>
    conv => lhs; cbv
theorem c118 : Cert 118 T118.1 := cert_of T118.2 Tryz.func118
end Go.Proofs.YtncdaicaljpgfaaGreat
