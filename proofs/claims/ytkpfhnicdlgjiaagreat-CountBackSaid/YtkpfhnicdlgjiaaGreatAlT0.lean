/- The functions in the abstract language, worked out by Lean. -/
import Derived.Test.YtkpfhnicdlgjiaaGreatAlPc
set_option linter.unusedVariables false
set_option maxHeartbeats 1000000
set_option maxRecDepth 100000
namespace Go.Proofs.YtkpfhnicdlgjiaaGreat
-- suffrage/suffragelaw22.CountBack
noncomputable def T3 : { F : AFunc // CT.func [[0, 4], [18], [19, 20, 21, 22, 23, 24, 25, 26, 27, 28], [1, 2, 5, 29, 30], [29, 31, 32, 33, 34, 35, 36], [7, 37], [1, 2, 5, 6, 38, 39, 40, 41, 42, 43, 44], [38, 45, 46, 47], [], [48, 49, 50], [52, 53], [51, 54, 55, 56, 57, 58, 59, 60], [8, 9, 51, 61, 62, 63, 64, 65, 66], [67, 68, 69, 70, 71, 72, 73], [74, 75, 76, 77, 78, 79, 80], [11, 13, 15, 81, 82, 83, 84, 85, 86, 87, 88, 89, 90, 91, 92, 93, 94, 95, 96, 97, 98, 99, 100, 101, 102, 103, 104, 105, 106, 107, 108, 109, 110, 111, 112, 113, 114, 115], [1, 2, 5, 6, 10, 12, 14, 116], [116], [117, 118, 119], [121, 122, 134], [120, 123, 124, 125, 126, 127, 128, 129, 130, 131, 132, 133], [1, 2, 5, 6, 10, 12, 14, 16, 134], [1, 12, 14, 16, 120], [135, 136, 137, 138], [140, 141, 171], [139, 142, 143, 144, 145, 146, 147, 148, 149, 150, 151, 152, 153, 154, 155, 156, 157, 158, 159, 160, 161, 162, 163, 164, 165, 166, 167, 168, 169, 170], [2, 5, 6, 10, 17, 171], [6, 17, 139, 172, 173], [2, 5, 10, 174, 175, 176, 177, 178, 179]] Tryz.f3 = some F } := FN _ Tryz.f3 180 2 [.t 4] (PC.seq ⟨_, by conv => lhs; cbv⟩ (PC.seq ⟨_, by conv => lhs; cbv⟩ (PC.seq ⟨_, by conv => lhs; cbv⟩ (PC.seq ⟨_, by conv => lhs; cbv⟩ (PC.seq ⟨_, by conv => lhs; cbv⟩ (PC.seq ⟨_, by conv => lhs; cbv⟩ (PC.seq ⟨_, by conv => lhs; cbv⟩ (PC.seq ⟨_, by conv => lhs; cbv⟩ (PC.seq ⟨_, by conv => lhs; cbv⟩ (PC.seq ⟨_, by conv => lhs; cbv⟩ (PC.seq ⟨_, by conv => lhs; cbv⟩ (PC.seq ⟨_, by conv => lhs; cbv⟩ ⟨_, by conv => lhs; cbv⟩))))))))))))
theorem c3 : Cert 3 T3.1 := cert_of T3.2 Tryz.func3
-- suffrage/suffragelaw22.alive
noncomputable def T4 : { F : AFunc // CT.func [[0], [], [8], [10, 11, 49], [9, 12, 13, 14, 15, 16], [2, 3, 17, 18, 19, 20, 21, 22, 23], [24, 25, 26, 27, 28, 29], [4, 5, 6, 7, 30, 31, 32, 33, 34, 35, 36, 37, 38, 39, 40, 41, 42, 43, 44, 45, 46, 47, 48], [1, 49], [1, 9]] Tryz.f4 = some F } := by
  refine ⟨?F, ?h⟩
  case h =>
    conv => lhs; cbv
theorem c4 : Cert 4 T4.1 := cert_of T4.2 Tryz.func4
-- suffrage/suffrageref22.Great
noncomputable def T5 : { F : AFunc // CT.func [[0, 2], [7, 8, 9, 10, 11, 12, 13, 14, 15, 16, 17], [18], [1, 3, 19], [19], [20, 21, 22, 23], [5, 25, 26, 87], [24, 27, 28, 29, 30, 31, 32, 33, 34, 35, 36, 37, 38, 39, 40, 41, 42, 43, 44, 45, 46, 47, 48, 49, 50, 51, 52, 53, 54, 55, 56, 57, 58, 59, 60, 61, 62, 63, 64, 65, 66, 67, 68, 69, 70, 71, 72, 73, 74], [], [75, 76, 77, 78, 79, 80, 81, 82, 83, 84, 85, 86], [88, 89], [87, 90, 91, 92, 93, 94, 95, 96, 97, 98, 99, 100, 101, 102, 103, 104, 105, 106, 107, 108, 109, 110, 111, 112, 113, 114, 115, 116], [4, 24], [117, 118, 119, 120], [122, 123], [121, 124, 125, 126, 127, 128, 129, 130, 131, 132, 133], [1, 3, 6, 121, 134, 135]] Tryz.f5 = some F } := FN _ Tryz.f5 136 1 [.t 2] (PC.seq ⟨_, by conv => lhs; cbv⟩ (PC.seq ⟨_, by conv => lhs; cbv⟩ (PC.seq ⟨_, by conv => lhs; cbv⟩ (PC.seq (PC.seq ⟨_, by conv => lhs; cbv⟩ (PC.block 0 (PC.loop (PC.seq ⟨_, by conv => lhs; cbv⟩ ⟨_, by conv => lhs; cbv⟩)))) ⟨_, by conv => lhs; cbv⟩))))
theorem c5 : Cert 5 T5.1 := cert_of T5.2 Tryz.func5
-- suffrage/count.Rename
noncomputable def T6 : { F : AFunc // CT.func [[0, 1, 5], [14, 15, 16, 17, 18, 19, 20, 21, 22], [2, 3, 23, 24], [23, 25, 26], [27], [28, 29, 30, 31], [32, 33], [], [36, 37], [38, 39, 40, 41], [42, 43, 44, 45, 46, 47], [48, 49, 50, 51, 52, 53], [8, 54, 55, 56, 57, 58, 59], [], [63, 64, 65, 66], [10, 11, 67, 68, 69, 70, 71, 72, 73, 74, 75, 76], [77], [9, 60, 61, 62, 63, 78], [2, 34, 35, 36, 79, 80], [], [83, 84], [12, 85, 86, 87, 88], [89, 90, 91, 92, 93, 94], [95, 96, 97, 98, 99], [13, 100, 101, 102, 103, 104, 105, 106, 107, 108, 109], [110], [3, 6, 7, 81, 82, 83, 111]] Tryz.f6 = some F } := FN _ Tryz.f6 112 2 [.cell 4 3 false, .t 5] (PC.seq ⟨_, by conv => lhs; cbv⟩ (PC.seq ⟨_, by conv => lhs; cbv⟩ (PC.seq ⟨_, by conv => lhs; cbv⟩ (PC.seq ⟨_, by conv => lhs; cbv⟩ (PC.seq ⟨_, by conv => lhs; cbv⟩ (PC.seq ⟨_, by conv => lhs; cbv⟩ ⟨_, by conv => lhs; cbv⟩))))))
theorem c6 : Cert 6 T6.1 := cert_of T6.2 Tryz.func6
-- suffrage/count.Same
noncomputable def T7 : { F : AFunc // CT.func [[0, 1, 4], [], [], [2, 3, 5, 6, 7, 8, 9, 10, 11, 12, 13, 14, 15, 16, 17, 18, 19, 20, 21, 22, 23, 24, 25, 26, 27]] Tryz.f7 = some F } := by
  refine ⟨?F, ?h⟩
  case h =>
    conv => lhs; cbv
theorem c7 : Cert 7 T7.1 := cert_of T7.2 Tryz.func7
-- suffrage/count.Seats
noncomputable def T8 : { F : AFunc // CT.func [[0, 4, 5], [9, 10, 11, 12, 13], [1, 2, 14], [14, 15, 16], [2, 17], [], [21, 22, 23], [24, 25, 26, 27, 28, 29], [1, 6, 8, 18, 19, 20, 30], [8, 30, 31, 32, 33, 34, 35, 36], [37], [1, 6, 18, 19, 20, 21, 38]] Tryz.f8 = some F } := by
  refine ⟨?F, ?h⟩
  case h =>
    conv => lhs; cbv
theorem c8 : Cert 8 T8.1 := cert_of T8.2 Tryz.func8
-- suffrage/suffrageref08.Ints
noncomputable def T9 : { F : AFunc // CT.func [[4], [6, 7, 8, 9], [0, 1, 10], [10], [11, 12, 13], [15, 16, 25], [14, 17, 18, 19, 20, 21, 22, 23, 24], [0, 1, 5, 25], [0, 1, 5, 14]] Tryz.f9 = some F } := by
  refine ⟨?F, ?h⟩
  case h =>
    conv => lhs; cbv
theorem c9 : Cert 9 T9.1 := cert_of T9.2 Tryz.func9
-- suffrage/suffragelaw22.five
noncomputable def T10 : { F : AFunc // CT.func [[], [0, 5, 6, 7], [4, 8, 9, 10, 11, 12, 13, 14]] Tryz.f10 = some F } := by
  refine ⟨?F, ?h⟩
  case h =>
    conv => lhs; cbv
theorem c10 : Cert 10 T10.1 := cert_of T10.2 Tryz.func10
-- suffrage/count.Run
noncomputable def T11 : { F : AFunc // CT.func [[0, 1, 7], [12, 13], [14], [2, 3, 4, 8, 15, 16, 17], [8, 15, 18, 19], [20], [2, 3, 4, 9, 21, 22, 23], [9, 11, 21, 24, 25, 26, 27, 28, 29], [10, 30, 31, 32, 33, 34, 35, 36, 37, 38, 39, 40], [2, 3, 4, 41, 42], [2, 3, 4, 41, 43, 44, 45, 46, 47, 48, 49, 50, 51, 52, 53, 54]] Tryz.f11 = some F } := by
  refine ⟨?F, ?h⟩
  case h =>
    conv => lhs; cbv
theorem c11 : Cert 11 T11.1 := cert_of T11.2 Tryz.func11
-- suffrage/count.turns
noncomputable def T12 : { F : AFunc // CT.func [[2], [0, 6, 7, 8], [], [], [12, 13, 14, 15], [4, 5, 16, 17], [3, 9, 10, 11, 18], [18, 19], [3, 9, 10, 11, 12, 20, 21, 22, 23, 24, 25, 26, 27]] Tryz.f12 = some F } := by
  refine ⟨?F, ?h⟩
  case h =>
    conv => lhs; cbv
theorem c12 : Cert 12 T12.1 := cert_of T12.2 Tryz.func12
-- suffrage/count.fits
noncomputable def T13 : { F : AFunc // CT.func [[0, 1, 4], [10], [11, 12, 13, 14], [2, 3, 5, 15], [15, 16], [], [20, 21, 22], [7, 23, 24, 25, 26, 27, 28, 29, 30, 31, 32, 33, 34, 35, 36, 37, 38, 39, 40], [2, 3, 5, 17, 18, 19, 41], [41, 42], [2, 3, 17, 18, 19, 20, 43], [], [47, 48, 49], [9, 50, 51, 52, 53, 54, 55, 56, 57, 58, 59, 60, 61], [5, 44, 45, 46, 62], [62, 63], [5, 44, 45, 46, 47]] Tryz.f13 = some F } := by
  refine ⟨?F, ?h⟩
  case h =>
    conv => lhs; cbv
theorem c13 : Cert 13 T13.1 := cert_of T13.2 Tryz.func13
-- suffrage/count.Twin
noncomputable def T14 : { F : AFunc // CT.func [[0], [6, 7, 8, 9, 10, 11, 12, 13, 14, 15, 16, 17], [18], [], [22, 23, 24, 25], [3, 4, 26, 27, 28, 29, 30, 31, 32, 33, 34, 35, 36, 37, 38, 39, 40, 41, 42], [43], [19, 20, 21, 22, 44, 45], [], [48, 49], [5, 50, 51, 52, 53, 54, 55, 56, 57, 58, 59, 60, 61], [62], [1, 46, 47, 48, 63]] Tryz.f14 = some F } := by
  refine ⟨?F, ?h⟩
  case h =>
    conv => lhs; cbv
theorem c14 : Cert 14 T14.1 := cert_of T14.2 Tryz.func14
-- suffrage/count.Rename$1
noncomputable def T15 : { F : AFunc // CT.func [[], [], [8, 9, 10, 11], [3, 4, 12, 13, 14, 15, 16, 17, 18], [19]] Tryz.f15 = some F } := by
  refine ⟨?F, ?h⟩
  case h =>
    conv => lhs; cbv
theorem c15 : Cert 15 T15.1 := cert_of T15.2 Tryz.func15
-- suffrage/count.ratios
noncomputable def T16 : { F : AFunc // CT.func [[2], [0, 5, 6], [7], [], [10, 11], [4, 12, 13, 14, 15, 16, 17, 18, 19], [20], [3, 8, 9, 10, 21]] Tryz.f16 = some F } := by
  refine ⟨?F, ?h⟩
  case h =>
    conv => lhs; cbv
theorem c16 : Cert 16 T16.1 := cert_of T16.2 Tryz.func16
-- slices.Sort[[]int,int]
noncomputable def T17 : { F : AFunc // CT.func [[3, 4], [0, 2, 5, 6, 7, 8, 9, 10]] Tryz.f17 = some F } := by
  refine ⟨?F, ?h⟩
  case h =>
    conv => lhs; cbv
theorem c17 : Cert 17 T17.1 := cert_of T17.2 Tryz.func17
-- suffrage/count.Same$1
noncomputable def T18 : { F : AFunc // CT.func [[0, 1, 4], [2, 3, 5, 6, 7, 8, 9, 10, 11, 12, 13, 14, 15, 16, 17, 18, 19, 20, 21, 22, 23, 24, 25, 26, 27, 28, 29, 30]] Tryz.f18 = some F } := by
  refine ⟨?F, ?h⟩
  case h =>
    conv => lhs; cbv
theorem c18 : Cert 18 T18.1 := cert_of T18.2 Tryz.func18
-- slices.EqualFunc[[]suffrage/api.Ratio,[]suffrage/api.Ratio,suffrage/api.Ratio,suffrage/api.Ratio]
noncomputable def T19 : { F : AFunc // CT.func [[6], [10, 11, 12, 13], [0, 1, 2, 14], [0, 14], [], [18, 19, 20, 21], [7, 22, 23, 24, 25], [8, 9, 26, 27, 28, 29], [1, 2, 15, 16, 17, 30], [30, 31], [1, 2, 15, 16, 17, 18]] Tryz.f19 = some F } := by
  refine ⟨?F, ?h⟩
  case h =>
    conv => lhs; cbv
theorem c19 : Cert 19 T19.1 := cert_of T19.2 Tryz.func19
-- suffrage/ratio.Same
noncomputable def T20 : { F : AFunc // CT.func [[0, 1, 4], [2, 3, 5, 6, 7, 8, 9, 10, 11, 12, 13, 14, 15, 16, 17, 18, 19, 20, 21, 22, 23]] Tryz.f20 = some F } := by
  refine ⟨?F, ?h⟩
  case h =>
    conv => lhs; cbv
theorem c20 : Cert 20 T20.1 := cert_of T20.2 Tryz.func20
-- slices.Equal[[]int,int]
noncomputable def T21 : { F : AFunc // CT.func [[4], [6, 7, 8, 9], [0, 1, 10], [10, 11], [], [14, 15], [5, 16, 17, 18, 19, 20, 21, 22, 23], [0, 1, 12, 13, 24], [24, 25], [0, 1, 12, 13, 14]] Tryz.f21 = some F } := by
  refine ⟨?F, ?h⟩
  case h =>
    conv => lhs; cbv
theorem c21 : Cert 21 T21.1 := cert_of T21.2 Tryz.func21
-- suffrage/count.Same$2
noncomputable def T22 : { F : AFunc // CT.func [[0, 1, 4], [2, 3, 5, 6, 7, 8, 9, 10, 11, 12, 13, 14, 15, 16]] Tryz.f22 = some F } := by
  refine ⟨?F, ?h⟩
  case h =>
    conv => lhs; cbv
theorem c22 : Cert 22 T22.1 := cert_of T22.2 Tryz.func22
-- slices.EqualFunc[[]suffrage/api.Round,[]suffrage/api.Round,suffrage/api.Round,suffrage/api.Round]
noncomputable def T23 : { F : AFunc // CT.func [[6], [10, 11, 12, 13], [0, 1, 2, 14], [0, 14], [], [18, 19, 20, 21], [7, 22, 23, 24, 25], [8, 9, 26, 27, 28, 29], [1, 2, 15, 16, 17, 30], [30, 31], [1, 2, 15, 16, 17, 18]] Tryz.f23 = some F } := by
  refine ⟨?F, ?h⟩
  case h =>
    conv => lhs; cbv
theorem c23 : Cert 23 T23.1 := cert_of T23.2 Tryz.func23
-- slices.EqualFunc[[]suffrage/api.Tie,[]suffrage/api.Tie,suffrage/api.Tie,suffrage/api.Tie]
noncomputable def T24 : { F : AFunc // CT.func [[6], [10, 11, 12, 13], [0, 1, 2, 14], [0, 14], [], [18, 19, 20, 21], [7, 22, 23, 24, 25], [8, 9, 26, 27, 28, 29], [1, 2, 15, 16, 17, 30], [30, 31], [1, 2, 15, 16, 17, 18]] Tryz.f24 = some F } := by
  refine ⟨?F, ?h⟩
  case h =>
    conv => lhs; cbv
theorem c24 : Cert 24 T24.1 := cert_of T24.2 Tryz.func24
-- suffrage/contest.Check
noncomputable def T25 : { F : AFunc // CT.func [[0, 2], [3, 4, 5], [1, 6], [1, 6, 7, 8, 9, 10, 11, 12, 13, 14, 15, 16, 17, 18, 19, 20, 21, 22, 23, 24, 25, 26, 27, 28, 29, 30], [31], [31]] Tryz.f25 = some F } := by
  refine ⟨?F, ?h⟩
  case h =>
    conv => lhs; cbv
theorem c25 : Cert 25 T25.1 := cert_of T25.2 Tryz.func25
-- suffrage/profile.Check
noncomputable def T26 : { F : AFunc // CT.func [[0, 2], [8, 9, 10], [1, 11], [11], [4, 12, 13, 14, 15], [1, 6, 16, 17, 18, 19, 20, 21, 22, 23], [5, 7, 25, 26, 27, 28, 29, 30], [3, 24], [3, 24, 32, 33], [31], [31]] Tryz.f26 = some F } := by
  refine ⟨?F, ?h⟩
  case h =>
    conv => lhs; cbv
theorem c26 : Cert 26 T26.1 := cert_of T26.2 Tryz.func26
-- suffrage/contest.Kind
noncomputable def T27 : { F : AFunc // CT.func [[2, 3], [4, 5, 6], [0, 7], [0, 7, 8, 9, 10]] Tryz.f27 = some F } := by
  refine ⟨?F, ?h⟩
  case h =>
    conv => lhs; cbv
theorem c27 : Cert 27 T27.1 := cert_of T27.2 Tryz.func27
-- suffrage/count.rules
noncomputable def T28 : { F : AFunc // CT.func [[0], [1, 2, 3, 4, 5, 6, 7, 8, 9, 10, 11, 12, 13, 14, 15, 16, 17, 18]] Tryz.f28 = some F } := by
  refine ⟨?F, ?h⟩
  case h =>
    conv => lhs; cbv
theorem c28 : Cert 28 T28.1 := cert_of T28.2 Tryz.func28
-- slices.Sorted[int]
noncomputable def T29 : { F : AFunc // CT.func [[2], [0, 4, 5], [6, 7], [3, 8]] Tryz.f29 = some F } := by
  refine ⟨?F, ?h⟩
  case h =>
    conv => lhs; cbv
theorem c29 : Cert 29 T29.1 := cert_of T29.2 Tryz.func29
-- slices.Values[[]int,int]
noncomputable def T30 : { F : AFunc // CT.func [[0, 2], [1, 3]] Tryz.f30 = some F } := by
  refine ⟨?F, ?h⟩
  case h =>
    conv => lhs; cbv
theorem c30 : Cert 30 T30.1 := cert_of T30.2 Tryz.func30
-- suffrage/count.fits$1
noncomputable def T31 : { F : AFunc // CT.func [[3], [0, 1, 4, 5, 6, 7]] Tryz.f31 = some F } := by
  refine ⟨?F, ?h⟩
  case h =>
    conv => lhs; cbv
theorem c31 : Cert 31 T31.1 := cert_of T31.2 Tryz.func31
-- slices.ContainsFunc[[]int,int]
noncomputable def T32 : { F : AFunc // CT.func [[4], [0, 1, 5, 6, 7, 8]] Tryz.f32 = some F } := by
  refine ⟨?F, ?h⟩
  case h =>
    conv => lhs; cbv
theorem c32 : Cert 32 T32.1 := cert_of T32.2 Tryz.func32
-- suffrage/count.fits$1$1
noncomputable def T33 : { F : AFunc // CT.func [[3], [0, 1, 4, 5, 6, 7, 8, 9, 10]] Tryz.f33 = some F } := by
  refine ⟨?F, ?h⟩
  case h =>
    conv => lhs; cbv
theorem c33 : Cert 33 T33.1 := cert_of T33.2 Tryz.func33
-- slices.Clone[[]int,int]
noncomputable def T34 : { F : AFunc // CT.func [[2], [3], [0, 4], [0, 4, 5, 6, 7]] Tryz.f34 = some F } := by
  refine ⟨?F, ?h⟩
  case h =>
    conv => lhs; cbv
theorem c34 : Cert 34 T34.1 := cert_of T34.2 Tryz.func34
-- slices.Clone[[]suffrage/api.Round,suffrage/api.Round]
noncomputable def T35 : { F : AFunc // CT.func [[2], [3], [0, 4], [0, 4, 5, 6, 7]] Tryz.f35 = some F } := by
  refine ⟨?F, ?h⟩
  case h =>
    conv => lhs; cbv
theorem c35 : Cert 35 T35.1 := cert_of T35.2 Tryz.func35
-- slices.Clone[[]suffrage/api.Tie,suffrage/api.Tie]
noncomputable def T36 : { F : AFunc // CT.func [[2], [3], [0, 4], [0, 4, 5, 6, 7]] Tryz.f36 = some F } := by
  refine ⟨?F, ?h⟩
  case h =>
    conv => lhs; cbv
theorem c36 : Cert 36 T36.1 := cert_of T36.2 Tryz.func36
-- suffrage/ratio.Twin
noncomputable def T37 : { F : AFunc // CT.func [[0], [1, 3, 4, 5, 6, 7, 8, 9, 10, 11]] Tryz.f37 = some F } := by
  refine ⟨?F, ?h⟩
  case h =>
    conv => lhs; cbv
theorem c37 : Cert 37 T37.1 := cert_of T37.2 Tryz.func37
-- slices.Clone[[]suffrage/api.Ratio,suffrage/api.Ratio]
noncomputable def T38 : { F : AFunc // CT.func [[2], [3], [0, 4], [0, 4, 5, 6, 7]] Tryz.f38 = some F } := by
  refine ⟨?F, ?h⟩
  case h =>
    conv => lhs; cbv
theorem c38 : Cert 38 T38.1 := cert_of T38.2 Tryz.func38
-- slices.pdqsortOrdered[int]
noncomputable def T39 : { F : AFunc // CT.func [[], [], [19, 20, 21], [22], [0, 1, 2, 3, 8, 9, 10, 23, 24, 25, 26, 27], [23, 28], [0, 1, 2, 3, 8, 9, 10, 29, 30, 31, 32, 33], [29, 34], [35, 36, 37, 38, 39], [40, 41], [35, 42, 43, 44, 45, 46, 47, 48], [49], [12, 50, 51, 52, 53, 54], [55, 56, 57, 58, 59, 60], [], [12, 50, 61, 62, 63, 64, 65, 66, 67], [68, 69, 70, 71], [68, 72, 73, 74, 75, 76, 77, 78, 79, 80, 81, 82, 83, 84, 85, 86], [1, 10, 11, 87, 88, 89, 90, 91, 92], [13, 93], [8, 9, 11, 87, 94, 95, 96, 97, 98, 99, 100, 101], [15, 102], [103, 104, 105, 106, 107, 108], [10, 109, 110], [111, 112], [16, 17, 18, 113, 114, 115, 116], [1, 117, 118, 119, 120, 121], [14, 122, 123], [16, 17, 18, 113, 124, 125, 126], [2, 127, 128, 129, 130, 131, 132], [14, 133]] Tryz.f39 = some F } := FN _ Tryz.f39 134 4 [] (PC.seq ⟨_, by conv => lhs; cbv⟩ (PC.seq ⟨_, by conv => lhs; cbv⟩ (PC.block 0 (PC.loop (PC.block 1 (PC.seq ⟨_, by conv => lhs; cbv⟩ (PC.seq ⟨_, by conv => lhs; cbv⟩ (PC.seq ⟨_, by conv => lhs; cbv⟩ (PC.seq ⟨_, by conv => lhs; cbv⟩ (PC.seq ⟨_, by conv => lhs; cbv⟩ (PC.seq ⟨_, by conv => lhs; cbv⟩ (PC.seq ⟨_, by conv => lhs; cbv⟩ ⟨_, by conv => lhs; cbv⟩))))))))))))
theorem c39 : Cert 39 T39.1 := cert_of T39.2 Tryz.func39
-- math/bits.Len
noncomputable def T40 : { F : AFunc // CT.func [[2], [0, 3, 4, 5], [0, 6, 7]] Tryz.f40 = some F } := by
  refine ⟨?F, ?h⟩
  case h =>
    conv => lhs; cbv
theorem c40 : Cert 40 T40.1 := cert_of T40.2 Tryz.func40
-- suffrage/nat.Same
noncomputable def T41 : { F : AFunc // CT.func [[4], [0, 1, 5, 6, 7]] Tryz.f41 = some F } := by
  refine ⟨?F, ?h⟩
  case h =>
    conv => lhs; cbv
theorem c41 : Cert 41 T41.1 := cert_of T41.2 Tryz.func41
-- suffrage/contest.odd
noncomputable def T42 : { F : AFunc // CT.func [[2], [0, 3, 4]] Tryz.f42 = some F } := by
  refine ⟨?F, ?h⟩
  case h =>
    conv => lhs; cbv
theorem c42 : Cert 42 T42.1 := cert_of T42.2 Tryz.func42
-- suffrage/contest.twice
noncomputable def T43 : { F : AFunc // CT.func [[2], [], [], [8, 9, 10, 11], [3, 4, 12, 13, 14, 15], [0, 5, 6, 7, 16], [16, 17], [0, 5, 6, 7, 8]] Tryz.f43 = some F } := by
  refine ⟨?F, ?h⟩
  case h =>
    conv => lhs; cbv
theorem c43 : Cert 43 T43.1 := cert_of T43.2 Tryz.func43
-- suffrage/contest.fits
noncomputable def T44 : { F : AFunc // CT.func [[0, 2], [3, 4, 5, 6, 7, 8, 9], [1, 10], [10, 11, 12, 13], [16], [1, 14, 15, 17, 18, 19], [15, 21], [1, 14, 20, 22, 23, 24, 25, 26, 27], [1, 14, 20, 29], [28], [28]] Tryz.f44 = some F } := by
  refine ⟨?F, ?h⟩
  case h =>
    conv => lhs; cbv
theorem c44 : Cert 44 T44.1 := cert_of T44.2 Tryz.func44
-- suffrage/profile.all[suffrage/api.Row]
noncomputable def T45 : { F : AFunc // CT.func [[4], [], [], [10, 11, 12, 13], [5, 6, 14, 15, 16, 17, 18, 19, 20, 21, 22], [0, 1, 7, 8, 9, 23], [23, 24], [0, 1, 7, 8, 9, 10]] Tryz.f45 = some F } := by
  refine ⟨?F, ?h⟩
  case h =>
    conv => lhs; cbv
theorem c45 : Cert 45 T45.1 := cert_of T45.2 Tryz.func45
-- suffrage/profile.Check$1
noncomputable def T46 : { F : AFunc // CT.func [[0, 1, 7], [5, 8, 9, 10, 11, 12, 13, 14, 15, 16], [2, 3, 4, 6, 17], [2, 17], [3, 18, 19, 20, 21, 22, 23], [4, 6, 24, 25, 26, 27, 28, 29, 30, 31, 32, 33, 34, 35]] Tryz.f46 = some F } := by
  refine ⟨?F, ?h⟩
  case h =>
    conv => lhs; cbv
theorem c46 : Cert 46 T46.1 := cert_of T46.2 Tryz.func46
-- slices.Compare[[]int,int]
noncomputable def T47 : { F : AFunc // CT.func [[4], [], [], [12, 13, 14, 15], [16, 17, 18], [0, 1, 5, 6, 9, 10, 11, 19], [5, 19, 20, 21, 22, 23], [6, 7, 24, 25, 26], [27], [0, 1, 8, 9, 10, 11, 28, 29], [8, 28, 30], [0, 1, 9, 10, 11, 12, 31, 32, 33, 34], [35], [35]] Tryz.f47 = some F } := by
  refine ⟨?F, ?h⟩
  case h =>
    conv => lhs; cbv
theorem c47 : Cert 47 T47.1 := cert_of T47.2 Tryz.func47
-- suffrage/ballot.Check
noncomputable def T48 : { F : AFunc // CT.func [[0, 4], [5, 6], [1, 2, 7], [1, 2, 7, 8, 9, 10], [11], [11]] Tryz.f48 = some F } := by
  refine ⟨?F, ?h⟩
  case h =>
    conv => lhs; cbv
theorem c48 : Cert 48 T48.1 := cert_of T48.2 Tryz.func48
-- suffrage/profile.of
noncomputable def T49 : { F : AFunc // CT.func [[0, 1], [2, 3, 5, 6, 7, 8, 9]] Tryz.f49 = some F } := by
  refine ⟨?F, ?h⟩
  case h =>
    conv => lhs; cbv
theorem c49 : Cert 49 T49.1 := cert_of T49.2 Tryz.func49
-- suffrage/profile.New
noncomputable def T50 : { F : AFunc // CT.func [[5], [6, 7, 8, 9, 10, 11, 12, 13, 14, 15, 16, 17, 18], [0, 1, 19, 20], [0, 1, 19, 21, 22, 23]] Tryz.f50 = some F } := by
  refine ⟨?F, ?h⟩
  case h =>
    conv => lhs; cbv
theorem c50 : Cert 50 T50.1 := cert_of T50.2 Tryz.func50
-- suffrage/contest.of
noncomputable def T51 : { F : AFunc // CT.func [[], [4], [5, 6], [0, 3, 7, 8, 9, 10], [0, 3, 7, 11]] Tryz.f51 = some F } := by
  refine ⟨?F, ?h⟩
  case h =>
    conv => lhs; cbv
theorem c51 : Cert 51 T51.1 := cert_of T51.2 Tryz.func51
end Go.Proofs.YtkpfhnicdlgjiaaGreat
