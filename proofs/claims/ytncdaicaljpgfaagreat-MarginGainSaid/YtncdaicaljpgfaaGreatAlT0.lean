/- The functions in the abstract language, worked out by Lean. -/
import Derived.Test.YtncdaicaljpgfaaGreatAlPc
set_option linter.unusedVariables false
set_option maxHeartbeats 1000000
set_option maxRecDepth 100000
namespace Go.Proofs.YtncdaicaljpgfaaGreat
-- suffrage/suffragelaw23.MarginGain
noncomputable def T4 : { F : AFunc // CT.func [[12], [23, 24], [25, 26, 27, 28, 29, 30, 31, 32, 33, 34, 35, 36, 37, 38, 39, 40, 41, 42, 43, 44, 45, 46, 47, 48, 49, 50, 51, 52, 53, 54, 55, 56, 57, 58, 59, 60, 61, 62, 63, 64, 65, 66, 67, 68, 69, 70], [0, 1, 2, 3, 4, 5, 13, 71, 72], [71, 73, 74, 75, 76, 77, 78, 79, 80, 81, 82, 83, 84, 85], [0, 1, 2, 3, 4, 5, 13, 86, 87], [86, 88, 89], [90], [91, 92, 93], [94, 95, 96], [91, 97, 98, 99, 100, 101, 102, 103, 104, 105], [2, 106, 107, 108, 109, 110, 111, 112, 113, 114, 115], [3, 116, 117, 118, 119, 120, 121, 122, 123, 124, 125], [0, 1, 4, 5, 13, 14, 126, 127, 128, 129, 130, 131, 132, 133, 134, 135], [15, 16, 17, 18, 19, 20, 21, 22, 136, 137, 138, 139, 140, 141, 142, 143, 144, 145, 146, 147, 148, 149, 150, 151, 152, 153, 154, 155, 156, 157, 158, 159, 160, 161, 162, 163]] Tryz.f4 = some F } := FN _ Tryz.f4 164 6 [.t 12] (PC.seq ⟨_, by conv => lhs; cbv⟩ (PC.seq ⟨_, by conv => lhs; cbv⟩ (PC.seq ⟨_, by conv => lhs; cbv⟩ (PC.seq ⟨_, by conv => lhs; cbv⟩ (PC.seq ⟨_, by conv => lhs; cbv⟩ (PC.seq ⟨_, by conv => lhs; cbv⟩ (PC.seq ⟨_, by conv => lhs; cbv⟩ ⟨_, by conv => lhs; cbv⟩)))))))
theorem c4 : Cert 4 T4.1 := cert_of T4.2 Tryz.func4
-- suffrage/suffragelaw23.wakes
noncomputable def T6 : { F : AFunc // CT.func [[0], [37, 38, 39, 40, 41, 42], [43, 44, 45, 46, 47, 48, 49, 50], [51, 52, 53, 54, 55, 56, 57, 58], [7, 59, 60, 61, 62, 63, 64, 65, 66], [67, 68, 69, 70, 71, 72, 73, 74], [75, 76, 77, 78, 79, 80, 81, 82], [1, 15, 16, 83, 84, 85, 86, 87, 88, 89, 90], [18, 19, 91, 92, 93, 94, 95, 96, 97, 98], [2, 21, 22, 99, 100, 101, 102, 103, 104, 105, 106], [107, 108, 109, 110, 111], [26, 112, 113, 114, 115], [116, 117, 118, 119, 120, 121, 122], [31, 123, 124, 125, 126, 127, 128, 129], [34, 35, 130, 131, 132, 133, 134, 135], [3, 4, 5, 6, 8, 9, 10, 11, 12, 13, 14, 17, 20, 23, 24, 25, 27, 28, 29, 30, 32, 33, 36, 136, 137, 138, 139, 140, 141, 142, 143, 144, 145, 146, 147, 148, 149, 150, 151, 152, 153, 154, 155, 156, 157, 158, 159, 160, 161, 162, 163, 164, 165, 166, 167, 168, 169, 170, 171, 172, 173, 174, 175, 176, 177, 178, 179, 180, 181, 182, 183, 184, 185, 186, 187, 188, 189, 190, 191, 192, 193, 194, 195, 196, 197, 198, 199, 200, 201, 202, 203, 204, 205, 206, 207, 208, 209, 210, 211, 212, 213, 214, 215, 216, 217, 218, 219, 220, 221, 222]] Tryz.f6 = some F } := FN _ Tryz.f6 223 0 [.t 0] (PC.seq ⟨_, by conv => lhs; cbv⟩ (PC.seq ⟨_, by conv => lhs; cbv⟩ (PC.seq ⟨_, by conv => lhs; cbv⟩ (PC.seq ⟨_, by conv => lhs; cbv⟩ (PC.seq ⟨_, by conv => lhs; cbv⟩ (PC.seq ⟨_, by conv => lhs; cbv⟩ (PC.seq ⟨_, by conv => lhs; cbv⟩ (PC.seq ⟨_, by conv => lhs; cbv⟩ (PC.seq ⟨_, by conv => lhs; cbv⟩ (PC.seq ⟨_, by conv => lhs; cbv⟩ (PC.seq ⟨_, by conv => lhs; cbv⟩ (PC.seq ⟨_, by conv => lhs; cbv⟩ (PC.seq ⟨_, by conv => lhs; cbv⟩ (PC.seq ⟨_, by conv => lhs; cbv⟩ (PC.seq ⟨_, by conv => lhs; cbv⟩ (PC.seq ⟨_, by conv => lhs; cbv⟩ ⟨_, by conv => lhs; cbv⟩))))))))))))))))
theorem c6 : Cert 6 T6.1 := cert_of T6.2 Tryz.func6
-- suffrage/margin.Gain
noncomputable def T7 : { F : AFunc // CT.func [[10, 11], [13, 14], [12, 15, 16, 17, 18, 19, 20, 21, 22, 23, 24, 25, 26, 27, 28, 29, 30, 31, 32, 33, 34, 35, 36, 37, 38, 39, 40, 41, 42, 43, 44, 45], [0, 1, 2, 3, 4, 46], [0, 1, 2, 3, 4, 46, 47, 48, 49, 50, 51, 52]] Tryz.f7 = some F } := by
  refine ⟨?F, ?h⟩
  case h =>
    conv => lhs; cbv
theorem c7 : Cert 7 T7.1 := cert_of T7.2 Tryz.func7
-- suffrage/margin.Least
noncomputable def T9 : { F : AFunc // CT.func [[6, 7, 8], [], [9, 13, 14, 15, 16, 17, 18, 19, 20, 21, 22, 23, 24, 25, 26, 27, 28, 29, 30, 31], [0, 1, 2, 32], [32, 33], [0, 1, 2, 34], [34], [0], [], [38, 39, 40, 41], [11, 12, 42, 43, 44, 45, 46, 47, 48, 49, 50], [51], [1, 2, 10, 35, 36, 37, 38, 52, 53, 54, 55, 56, 57], [58, 59]] Tryz.f9 = some F } := by
  refine ⟨?F, ?h⟩
  case h =>
    conv => lhs; cbv
theorem c9 : Cert 9 T9.1 := cert_of T9.2 Tryz.func9
-- suffrage/suffrageref23.Kind
noncomputable def T11 : { F : AFunc // CT.func [[2], [0], [5], [6], [7], [8], [3, 4], [4, 10], [3, 9], [3, 9, 12], [11], [11]] Tryz.f11 = some F } := by
  refine ⟨?F, ?h⟩
  case h =>
    conv => lhs; cbv
theorem c11 : Cert 11 T11.1 := cert_of T11.2 Tryz.func11
-- suffrage/suffrageref08.Check
noncomputable def T12 : { F : AFunc // CT.func [[0, 4], [5, 6, 7, 8, 9], [1, 2, 10], [1, 2, 10, 11, 12, 13], [14], [14]] Tryz.f12 = some F } := by
  refine ⟨?F, ?h⟩
  case h =>
    conv => lhs; cbv
theorem c12 : Cert 12 T12.1 := cert_of T12.2 Tryz.func12
-- suffrage/suffragelaw23.lead
noncomputable def T13 : { F : AFunc // CT.func [[12, 13], [2, 3, 22, 23, 24, 25, 26, 27], [28, 29], [30, 31, 32, 33, 34, 35], [0], [38], [14, 15, 36, 37, 39, 40, 41, 42, 43, 44], [37, 46], [14, 15, 36, 45, 47, 48, 49, 50, 51, 52], [36, 45, 54], [14, 15, 53, 55, 56, 57, 58, 59, 60], [1, 14, 15, 17, 53, 61, 62, 63, 64, 65, 66, 67, 68, 69, 70, 71, 72, 73, 74, 75, 76, 77], [4, 5, 16, 78], [5, 78, 79, 80, 81, 82, 83, 84, 85, 86, 87, 88, 89, 90], [4, 16, 91, 92, 93, 94, 95, 96, 97, 98, 99, 100, 101, 102], [18, 19, 20, 21, 103, 104, 105, 106, 107, 108, 109, 110, 111]] Tryz.f13 = some F } := FN _ Tryz.f13 112 6 [.t 12, .t 13] (PC.seq ⟨_, by conv => lhs; cbv⟩ (PC.seq ⟨_, by conv => lhs; cbv⟩ (PC.seq ⟨_, by conv => lhs; cbv⟩ (PC.seq ⟨_, by conv => lhs; cbv⟩ (PC.seq ⟨_, by conv => lhs; cbv⟩ ⟨_, by conv => lhs; cbv⟩)))))
theorem c13 : Cert 13 T13.1 := cert_of T13.2 Tryz.func13
-- suffrage/margin.Of
noncomputable def T14 : { F : AFunc // CT.func [[0, 1, 6, 7, 8], [11, 12, 13, 14, 15, 16, 17], [18], [2, 3, 4, 9, 19, 20], [2, 4, 8, 9, 19, 21, 22, 23, 24, 25], [26], [3, 10, 27], [3, 27, 28], [31], [32], [33], [34], [10, 29, 30, 35, 36, 37], [30, 39], [40], [10, 29, 38, 41, 42, 43], [38, 45], [46], [47], [48], [10, 29, 44, 49, 50], [29, 44, 52], [10, 51, 53, 54], [10, 51]] Tryz.f14 = some F } := by
  refine ⟨?F, ?h⟩
  case h =>
    conv => lhs; cbv
theorem c14 : Cert 14 T14.1 := cert_of T14.2 Tryz.func14
-- suffrage/suffragelaw23.contest
noncomputable def T15 : { F : AFunc // CT.func [[], [8], [0, 1, 2, 7, 9, 10, 11, 12, 13]] Tryz.f15 = some F } := by
  refine ⟨?F, ?h⟩
  case h =>
    conv => lhs; cbv
theorem c15 : Cert 15 T15.1 := cert_of T15.2 Tryz.func15
-- suffrage/margin.kinds
noncomputable def T16 : { F : AFunc // CT.func [[2], [0], [5], [6], [3, 4], [4, 8], [3, 7], [3, 7, 10], [9], [9]] Tryz.f16 = some F } := by
  refine ⟨?F, ?h⟩
  case h =>
    conv => lhs; cbv
theorem c16 : Cert 16 T16.1 := cert_of T16.2 Tryz.func16
-- suffrage/ballot.Check
noncomputable def T17 : { F : AFunc // CT.func [[0, 4], [5, 6], [1, 2, 7], [1, 2, 7, 8, 9, 10], [11], [11]] Tryz.f17 = some F } := by
  refine ⟨?F, ?h⟩
  case h =>
    conv => lhs; cbv
theorem c17 : Cert 17 T17.1 := cert_of T17.2 Tryz.func17
-- suffrage/margin.gain
noncomputable def T18 : { F : AFunc // CT.func [[10], [0, 1, 2, 3, 4, 11, 12, 13, 14, 15, 16, 17, 18, 19, 20, 21, 22, 23, 24, 25]] Tryz.f18 = some F } := by
  refine ⟨?F, ?h⟩
  case h =>
    conv => lhs; cbv
theorem c18 : Cert 18 T18.1 := cert_of T18.2 Tryz.func18
-- suffrage/margin.Least$1
noncomputable def T20 : { F : AFunc // CT.func [[2], [0, 3, 4, 5, 6, 7, 8]] Tryz.f20 = some F } := by
  refine ⟨?F, ?h⟩
  case h =>
    conv => lhs; cbv
theorem c20 : Cert 20 T20.1 := cert_of T20.2 Tryz.func20
-- slices.ContainsFunc[[]int,int]
noncomputable def T21 : { F : AFunc // CT.func [[4], [0, 1, 5, 6, 7, 8]] Tryz.f21 = some F } := by
  refine ⟨?F, ?h⟩
  case h =>
    conv => lhs; cbv
theorem c21 : Cert 21 T21.1 := cert_of T21.2 Tryz.func21
-- suffrage/margin.least
noncomputable def T22 : { F : AFunc // CT.func [[5], [9, 10], [0], [], [14, 15, 16], [17, 18, 19, 20, 21, 22], [23, 24, 25, 26, 27, 28, 29, 30, 31, 32, 33, 34], [7, 35, 36, 37, 38, 39, 40], [8, 41, 42, 43], [44], [1, 7, 11, 12, 13, 14, 23, 45], [46], [46, 47]] Tryz.f22 = some F } := by
  refine ⟨?F, ?h⟩
  case h =>
    conv => lhs; cbv
theorem c22 : Cert 22 T22.1 := cert_of T22.2 Tryz.func22
-- suffrage/suffrageref08.Fine
noncomputable def T24 : { F : AFunc // CT.func [[0, 4], [8, 9], [10, 11], [2, 12], [13, 14, 15], [17, 18, 30], [16, 19, 20, 21, 22, 23, 24, 25, 26, 27, 28, 29], [1, 5, 6, 30], [1, 5, 6, 16, 31, 32, 33, 34], [12, 35, 36, 37, 38, 39, 40, 41], [1, 2, 5, 42], [42], [43, 44, 45], [47, 48, 89], [46, 49, 50, 51, 52, 53, 54, 55, 56, 57, 58, 59, 60], [1, 2, 5, 7, 61], [61, 62, 63, 64, 65, 66, 67, 68, 69, 70, 71, 72, 73, 74, 75, 76, 77, 78, 79], [1, 2, 5, 7, 80], [80, 81, 82, 83, 84, 85, 86, 87, 88], [1, 2, 5, 7, 89], [1, 2, 5, 7, 46]] Tryz.f24 = some F } := FN _ Tryz.f24 90 2 [.t 4] (PC.seq ⟨_, by conv => lhs; cbv⟩ (PC.seq ⟨_, by conv => lhs; cbv⟩ (PC.seq ⟨_, by conv => lhs; cbv⟩ (PC.seq ⟨_, by conv => lhs; cbv⟩ (PC.seq (PC.seq ⟨_, by conv => lhs; cbv⟩ (PC.block 2 (PC.loop (PC.seq ⟨_, by conv => lhs; cbv⟩ ⟨_, by conv => lhs; cbv⟩)))) ⟨_, by conv => lhs; cbv⟩)))))
theorem c24 : Cert 24 T24.1 := cert_of T24.2 Tryz.func24
-- suffrage/suffrageref11.All
noncomputable def T25 : { F : AFunc // CT.func [[2], [], [], [5, 6], [8, 9], [7, 10, 11, 12, 13], [0, 3, 4, 7, 14]] Tryz.f25 = some F } := by
  refine ⟨?F, ?h⟩
  case h =>
    conv => lhs; cbv
theorem c25 : Cert 25 T25.1 := cert_of T25.2 Tryz.func25
-- suffrage/single.Borda
noncomputable def T26 : { F : AFunc // CT.func [[0, 7], [1, 2, 3, 8, 9, 10, 11, 12, 13, 14]] Tryz.f26 = some F } := by
  refine ⟨?F, ?h⟩
  case h =>
    conv => lhs; cbv
theorem c26 : Cert 26 T26.1 := cert_of T26.2 Tryz.func26
-- suffrage/single.Plurality
noncomputable def T27 : { F : AFunc // CT.func [[0, 7], [1, 2, 3, 8, 9, 10, 11, 12, 13, 14]] Tryz.f27 = some F } := by
  refine ⟨?F, ?h⟩
  case h =>
    conv => lhs; cbv
theorem c27 : Cert 27 T27.1 := cert_of T27.2 Tryz.func27
-- suffrage/single.Approval
noncomputable def T28 : { F : AFunc // CT.func [[0, 7], [1, 2, 3, 8, 9, 10, 11, 12, 13, 14]] Tryz.f28 = some F } := by
  refine ⟨?F, ?h⟩
  case h =>
    conv => lhs; cbv
theorem c28 : Cert 28 T28.1 := cert_of T28.2 Tryz.func28
-- suffrage/single.Score
noncomputable def T29 : { F : AFunc // CT.func [[0, 7], [1, 2, 3, 8, 9, 10, 11, 12, 13, 14]] Tryz.f29 = some F } := by
  refine ⟨?F, ?h⟩
  case h =>
    conv => lhs; cbv
theorem c29 : Cert 29 T29.1 := cert_of T29.2 Tryz.func29
-- suffrage/suffrageref04.Floor
noncomputable def T30 : { F : AFunc // CT.func [[0, 2, 3], [11, 12], [1, 13], [6, 13, 14, 15, 16, 17, 18, 19, 20, 21, 22], [5, 23, 24, 25, 26, 27, 28], [4, 29, 30, 31, 32, 33, 34, 35], [8, 36], [1, 7, 37], [7, 37, 38], [4, 29, 39, 40, 41, 42, 43], [10, 44, 45, 46, 47, 48, 49, 50, 51, 52, 53, 54, 55, 56, 57], [1, 9, 58], [1, 58, 59], [9, 60, 61, 62, 63], [9, 60, 64, 65]] Tryz.f30 = some F } := by
  refine ⟨?F, ?h⟩
  case h =>
    conv => lhs; cbv
theorem c30 : Cert 30 T30.1 := cert_of T30.2 Tryz.func30
-- suffrage/count.Run
noncomputable def T31 : { F : AFunc // CT.func [[0, 1, 7], [12, 13], [14], [2, 3, 4, 8, 15, 16, 17], [8, 15, 18, 19], [20], [2, 3, 4, 9, 21, 22, 23], [9, 11, 21, 24, 25, 26, 27, 28, 29], [10, 30, 31, 32, 33, 34, 35, 36, 37, 38, 39, 40], [2, 3, 4, 41, 42], [2, 3, 4, 41, 43, 44, 45, 46, 47, 48, 49, 50, 51, 52, 53, 54]] Tryz.f31 = some F } := by
  refine ⟨?F, ?h⟩
  case h =>
    conv => lhs; cbv
theorem c31 : Cert 31 T31.1 := cert_of T31.2 Tryz.func31
-- (suffrage/margin.election).fixed
noncomputable def T32 : { F : AFunc // CT.func [[0, 2], [4, 6, 7, 8, 9, 10, 11], [12, 13, 14, 15], [1, 3, 5, 16, 17, 18, 19, 20, 21, 22, 23, 24, 25, 26, 27, 28, 29, 30, 31, 32, 33, 34, 35, 36]] Tryz.f32 = some F } := by
  refine ⟨?F, ?h⟩
  case h =>
    conv => lhs; cbv
theorem c32 : Cert 32 T32.1 := cert_of T32.2 Tryz.func32
-- suffrage/margin.exactly
noncomputable def T33 : { F : AFunc // CT.func [[], [], [0], [7, 8], [9], [3, 4, 10, 11, 12, 13, 14, 15], [6], [2, 5, 16, 17, 18, 19], [7, 20]] Tryz.f33 = some F } := by
  refine ⟨?F, ?h⟩
  case h =>
    conv => lhs; cbv
theorem c33 : Cert 33 T33.1 := cert_of T33.2 Tryz.func33
-- (suffrage/margin.election).points
noncomputable def T34 : { F : AFunc // CT.func [[0, 2], [1, 3]] Tryz.f34 = some F } := by
  refine ⟨?F, ?h⟩
  case h =>
    conv => lhs; cbv
theorem c34 : Cert 34 T34.1 := cert_of T34.2 Tryz.func34
-- (suffrage/margin.election).quotients
noncomputable def T35 : { F : AFunc // CT.func [[0, 2], [4, 6, 7, 8, 9, 10, 11, 12, 13, 14], [15], [1, 3, 5, 16]] Tryz.f35 = some F } := by
  refine ⟨?F, ?h⟩
  case h =>
    conv => lhs; cbv
theorem c35 : Cert 35 T35.1 := cert_of T35.2 Tryz.func35
-- (suffrage/margin.election).paired
noncomputable def T36 : { F : AFunc // CT.func [[0, 2], [4, 9, 10, 11, 12, 13, 14], [15, 16, 17, 18, 19, 20, 21, 22], [6, 23], [1, 3, 5, 24], [24], [1, 25, 26], [], [29, 30], [31, 32], [8, 33, 34, 35, 36, 37, 38, 39], [8, 33, 40], [3, 5, 7, 27, 28, 29, 41, 42]] Tryz.f36 = some F } := by
  refine ⟨?F, ?h⟩
  case h =>
    conv => lhs; cbv
theorem c36 : Cert 36 T36.1 := cert_of T36.2 Tryz.func36
-- (suffrage/margin.election).decisions
noncomputable def T37 : { F : AFunc // CT.func [[0, 2], [14, 15, 16], [17, 18], [19, 20], [], [24, 25, 26], [], [27, 28], [], [31, 32], [9, 33, 34, 35, 36, 37], [38], [29, 30, 31, 39, 40], [], [43, 44], [45, 46, 47], [48, 49, 50, 51], [52, 53, 54, 55, 56, 57, 58, 59, 60, 61], [10, 62, 63, 64, 65, 66, 67, 68, 69, 70], [52, 71, 72, 73, 74, 75, 76, 77, 78, 79], [80, 81, 82, 83], [84, 85], [10, 11, 86, 87, 88, 89, 90, 91, 92, 93, 94, 95, 96, 97, 98, 99, 100, 101], [10, 11, 48, 62, 86, 102], [7, 8, 41, 42, 43, 103], [], [107, 108, 109], [13, 110, 111, 112], [113, 114], [115], [104, 105, 106, 107, 116], [1, 3, 4, 5, 21, 22, 23, 24, 117, 118, 119]] Tryz.f37 = some F } := FN _ Tryz.f37 120 1 [.t 2] (PC.seq ⟨_, by conv => lhs; cbv⟩ (PC.seq ⟨_, by conv => lhs; cbv⟩ (PC.seq ⟨_, by conv => lhs; cbv⟩ (PC.seq (PC.seq ⟨_, by conv => lhs; cbv⟩ (PC.block 0 (PC.loop (PC.seq ⟨_, by conv => lhs; cbv⟩ (PC.seq ⟨_, by conv => lhs; cbv⟩ (PC.seq (PC.block 1 (PC.seq ⟨_, by conv => lhs; cbv⟩ (PC.seq ⟨_, by conv => lhs; cbv⟩ (PC.seq ⟨_, by conv => lhs; cbv⟩ (PC.seq (PC.seq ⟨_, by conv => lhs; cbv⟩ (PC.block 4 (PC.loop (PC.seq ⟨_, by conv => lhs; cbv⟩ (PC.seq ⟨_, by conv => lhs; cbv⟩ (PC.seq (PC.block 5 (PC.seq ⟨_, by conv => lhs; cbv⟩ (PC.seq ⟨_, by conv => lhs; cbv⟩ ⟨_, by conv => lhs; cbv⟩))) ⟨_, by conv => lhs; cbv⟩)))))) ⟨_, by conv => lhs; cbv⟩))))) ⟨_, by conv => lhs; cbv⟩)))))) ⟨_, by conv => lhs; cbv⟩))))
theorem c37 : Cert 37 T37.1 := cert_of T37.2 Tryz.func37
-- suffrage/ballot.within
noncomputable def T38 : { F : AFunc // CT.func [[6], [0, 1, 2, 7, 8, 9, 10, 11, 12, 13, 14]] Tryz.f38 = some F } := by
  refine ⟨?F, ?h⟩
  case h =>
    conv => lhs; cbv
theorem c38 : Cert 38 T38.1 := cert_of T38.2 Tryz.func38
-- suffrage/ballot.fine
noncomputable def T39 : { F : AFunc // CT.func [[0, 4], [10], [], [14, 15, 16], [6, 17, 18, 19, 20, 21, 22, 23, 24, 25, 26, 27, 28, 29, 30, 31, 32, 33, 34], [1, 2, 11, 12, 13, 35], [35, 36], [11, 12, 13, 14, 37], [40], [1, 39, 42], [38, 41, 44], [1, 2, 38, 39, 45, 46, 47, 48, 49], [38, 41, 50, 51, 52], [2, 53], [43, 53], [2, 54], [], [58, 59, 60], [61, 62], [7, 9, 55, 56, 57, 63], [9, 63, 64, 65], [66], [7, 55, 56, 57, 58], [2, 43]] Tryz.f39 = some F } := by
  refine ⟨?F, ?h⟩
  case h =>
    conv => lhs; cbv
theorem c39 : Cert 39 T39.1 := cert_of T39.2 Tryz.func39
-- suffrage/margin.most
noncomputable def T40 : { F : AFunc // CT.func [[4], [0], [7], [1, 5, 6], [5, 6, 9], [1, 8, 10, 11], [1, 8]] Tryz.f40 = some F } := by
  refine ⟨?F, ?h⟩
  case h =>
    conv => lhs; cbv
theorem c40 : Cert 40 T40.1 := cert_of T40.2 Tryz.func40
-- suffrage/margin.points
noncomputable def T41 : { F : AFunc // CT.func [[8], [10, 11, 12], [0], [15], [1, 2, 3, 9, 13, 14, 16, 17, 18, 19, 20, 21], [22], [22], [14, 24], [1, 2, 3, 9, 13, 23, 25, 26, 27], [13, 23, 29], [1, 2, 3, 9, 28, 30, 31, 32, 33], [2, 3, 28, 34], [1, 9, 35], [1, 9, 35, 36, 37, 38, 39]] Tryz.f41 = some F } := by
  refine ⟨?F, ?h⟩
  case h =>
    conv => lhs; cbv
theorem c41 : Cert 41 T41.1 := cert_of T41.2 Tryz.func41
-- slices.IndexFunc[[]int,int]
noncomputable def T43 : { F : AFunc // CT.func [[4], [6], [], [9, 10], [11, 12, 13, 14, 15], [0, 1, 5, 7, 8, 16, 17], [5, 16, 18], [0, 1, 7, 8, 9]] Tryz.f43 = some F } := by
  refine ⟨?F, ?h⟩
  case h =>
    conv => lhs; cbv
theorem c43 : Cert 43 T43.1 := cert_of T43.2 Tryz.func43
-- slices.SortFunc[[]suffrage/margin.share,suffrage/margin.share]
noncomputable def T44 : { F : AFunc // CT.func [[5, 6], [0, 1, 4, 7, 8, 9, 10, 11, 12, 13]] Tryz.f44 = some F } := by
  refine ⟨?F, ?h⟩
  case h =>
    conv => lhs; cbv
theorem c44 : Cert 44 T44.1 := cert_of T44.2 Tryz.func44
-- suffrage/margin.least$1
noncomputable def T45 : { F : AFunc // CT.func [[0, 1, 4], [2, 3, 5, 6, 7, 8, 9]] Tryz.f45 = some F } := by
  refine ⟨?F, ?h⟩
  case h =>
    conv => lhs; cbv
theorem c45 : Cert 45 T45.1 := cert_of T45.2 Tryz.func45
-- cmp.Compare[int]
noncomputable def T46 : { F : AFunc // CT.func [[4], [7, 8], [9, 10], [5], [0, 1, 6, 11], [12], [12], [6, 11], [0, 1, 13], [13, 14, 15], [0, 1, 16], [0, 1, 16, 17, 18], [19], [19]] Tryz.f46 = some F } := by
  refine ⟨?F, ?h⟩
  case h =>
    conv => lhs; cbv
theorem c46 : Cert 46 T46.1 := cert_of T46.2 Tryz.func46
-- suffrage/suffrageref08.place
noncomputable def T47 : { F : AFunc // CT.func [[4], [], [6, 7, 8], [10, 11, 17], [9, 12, 13, 14, 15, 16], [0, 1, 5, 17, 18], [0, 1, 5, 9]] Tryz.f47 = some F } := by
  refine ⟨?F, ?h⟩
  case h =>
    conv => lhs; cbv
theorem c47 : Cert 47 T47.1 := cert_of T47.2 Tryz.func47
-- suffrage/single.ranked
noncomputable def T48 : { F : AFunc // CT.func [[4], [8], [0], [], [12, 13, 14, 15], [6, 7, 16, 17, 18, 19, 20, 21], [22], [1, 5, 9, 10, 11, 12, 23]] Tryz.f48 = some F } := by
  refine ⟨?F, ?h⟩
  case h =>
    conv => lhs; cbv
theorem c48 : Cert 48 T48.1 := cert_of T48.2 Tryz.func48
-- suffrage/single.never
noncomputable def T49 : { F : AFunc // CT.func [[0, 2], []] Tryz.f49 = some F } := by
  refine ⟨?F, ?h⟩
  case h =>
    conv => lhs; cbv
theorem c49 : Cert 49 T49.1 := cert_of T49.2 Tryz.func49
-- (suffrage/single.rule).count
noncomputable def T50 : { F : AFunc // CT.func [[0, 1, 9], [17, 18, 19, 20, 21, 22, 23, 24], [25], [2, 3, 4, 5, 10, 26, 27, 28], [10, 26, 29, 30, 31], [32], [], [36, 37, 38], [39, 40, 41, 42], [14, 43, 44, 45, 46, 47], [43, 48, 49, 50, 51, 52, 53, 54], [56], [57, 58, 59, 60], [15, 16, 61, 62, 63, 64, 65, 66, 67, 68, 69, 70], [14, 55, 57, 71], [2, 3, 4, 5, 11, 12, 33, 34, 35, 36, 72, 73, 74, 75, 76, 77]] Tryz.f50 = some F } := by
  refine ⟨?F, ?h⟩
  case h =>
    conv => lhs; cbv
theorem c50 : Cert 50 T50.1 := cert_of T50.2 Tryz.func50
-- suffrage/single.marked
noncomputable def T51 : { F : AFunc // CT.func [[1, 4], [8], [0], [], [12, 13, 14], [7, 15, 16], [17], [5, 9, 10, 11, 12, 18]] Tryz.f51 = some F } := by
  refine ⟨?F, ?h⟩
  case h =>
    conv => lhs; cbv
theorem c51 : Cert 51 T51.1 := cert_of T51.2 Tryz.func51
-- suffrage/single.alone
noncomputable def T52 : { F : AFunc // CT.func [[2], [0, 3, 4, 5]] Tryz.f52 = some F } := by
  refine ⟨?F, ?h⟩
  case h =>
    conv => lhs; cbv
theorem c52 : Cert 52 T52.1 := cert_of T52.2 Tryz.func52
-- suffrage/single.scored
noncomputable def T53 : { F : AFunc // CT.func [[1, 4], [8], [0], [], [12, 13, 14, 15], [6, 7, 16, 17, 18], [19], [5, 9, 10, 11, 12, 20]] Tryz.f53 = some F } := by
  refine ⟨?F, ?h⟩
  case h =>
    conv => lhs; cbv
theorem c53 : Cert 53 T53.1 := cert_of T53.2 Tryz.func53
-- suffrage/suffrageref04.Check
noncomputable def T54 : { F : AFunc // CT.func [[0, 2], [5, 6, 7, 8, 9, 10, 11, 12, 13, 14, 15, 16, 17, 18, 19, 20, 21, 22, 23, 24, 25], [1, 26], [1, 4, 26, 27, 28, 29, 30, 31, 32, 33, 34], [3, 35, 36, 37], [38], [38]] Tryz.f54 = some F } := by
  refine ⟨?F, ?h⟩
  case h =>
    conv => lhs; cbv
theorem c54 : Cert 54 T54.1 := cert_of T54.2 Tryz.func54
-- suffrage/suffrageref03.Div
noncomputable def T55 : { F : AFunc // CT.func [[4, 5, 6], [11, 12, 13], [14], [0, 1, 7, 15, 16], [7, 15, 17, 18], [0, 1, 19], [19, 20, 21, 22], [], [23, 24, 25, 26], [27], [29, 30, 51], [28, 31, 32, 33], [34, 35, 36, 37, 38, 39, 40, 41, 42, 43], [44, 45, 46, 47], [44, 48, 49, 50], [51, 52, 53, 54], [55, 56, 57, 58, 59, 60, 61, 62, 63, 64, 65, 66, 67, 68], [0, 1, 8, 9, 10, 28, 69, 70, 71]] Tryz.f55 = some F } := by
  refine ⟨?F, ?h⟩
  case h =>
    conv => lhs; cbv
theorem c55 : Cert 55 T55.1 := cert_of T55.2 Tryz.func55
-- suffrage/suffrageref03.Add
noncomputable def T56 : { F : AFunc // CT.func [[4, 5], [8, 9, 10], [11], [0, 1, 6, 12, 13], [0, 1, 6, 12, 14, 15, 16], [17, 18], [7, 19], [7, 19, 20]] Tryz.f56 = some F } := by
  refine ⟨?F, ?h⟩
  case h =>
    conv => lhs; cbv
theorem c56 : Cert 56 T56.1 := cert_of T56.2 Tryz.func56
-- suffrage/suffrageref03.Word
noncomputable def T57 : { F : AFunc // CT.func [[2, 3], [7, 8], [9], [0, 4, 10, 11], [4, 10, 12, 13], [0, 14], [14], [15, 16, 17], [18], [20, 21], [19, 22, 23, 24, 25, 26, 27, 28, 29], [0, 5, 6, 19, 30]] Tryz.f57 = some F } := by
  refine ⟨?F, ?h⟩
  case h =>
    conv => lhs; cbv
theorem c57 : Cert 57 T57.1 := cert_of T57.2 Tryz.func57
-- suffrage/contest.Check
noncomputable def T58 : { F : AFunc // CT.func [[0, 2], [3, 4, 5], [1, 6], [1, 6, 7, 8, 9, 10, 11, 12, 13, 14, 15, 16, 17, 18, 19, 20, 21, 22, 23, 24, 25, 26, 27, 28, 29, 30], [31], [31]] Tryz.f58 = some F } := by
  refine ⟨?F, ?h⟩
  case h =>
    conv => lhs; cbv
theorem c58 : Cert 58 T58.1 := cert_of T58.2 Tryz.func58
-- suffrage/profile.Check
noncomputable def T59 : { F : AFunc // CT.func [[0, 2], [8, 9, 10], [1, 11], [11], [4, 12, 13, 14, 15], [1, 6, 16, 17, 18, 19, 20, 21, 22, 23], [5, 7, 25, 26, 27, 28, 29, 30], [3, 24], [3, 24, 32, 33], [31], [31]] Tryz.f59 = some F } := by
  refine ⟨?F, ?h⟩
  case h =>
    conv => lhs; cbv
theorem c59 : Cert 59 T59.1 := cert_of T59.2 Tryz.func59
-- suffrage/contest.Kind
noncomputable def T60 : { F : AFunc // CT.func [[2, 3], [4, 5, 6], [0, 7], [0, 7, 8, 9, 10]] Tryz.f60 = some F } := by
  refine ⟨?F, ?h⟩
  case h =>
    conv => lhs; cbv
theorem c60 : Cert 60 T60.1 := cert_of T60.2 Tryz.func60
-- suffrage/count.rules
noncomputable def T61 : { F : AFunc // CT.func [[0], [1, 2, 3, 4, 5, 6, 7, 8, 9, 10, 11, 12, 13, 14, 15, 16, 17, 18]] Tryz.f61 = some F } := by
  refine ⟨?F, ?h⟩
  case h =>
    conv => lhs; cbv
theorem c61 : Cert 61 T61.1 := cert_of T61.2 Tryz.func61
-- suffrage/profile.Many
noncomputable def T62 : { F : AFunc // CT.func [[0, 2, 3], [1, 4, 5, 6, 7]] Tryz.f62 = some F } := by
  refine ⟨?F, ?h⟩
  case h =>
    conv => lhs; cbv
theorem c62 : Cert 62 T62.1 := cert_of T62.2 Tryz.func62
-- (suffrage/margin.election).points$1
noncomputable def T63 : { F : AFunc // CT.func [[7, 8], [], [12, 13, 14], [15, 16], [], [19, 20], [21, 22, 23, 24], [25, 26, 27, 28, 29, 30, 31, 32, 33, 34, 35, 36, 37, 38, 39, 40, 41, 42, 43, 44, 45, 46], [5, 6, 47, 48, 49, 50, 51, 52], [5, 25, 53, 54], [4, 17, 18, 19, 55]] Tryz.f63 = some F } := by
  refine ⟨?F, ?h⟩
  case h =>
    conv => lhs; cbv
theorem c63 : Cert 63 T63.1 := cert_of T63.2 Tryz.func63
end Go.Proofs.YtncdaicaljpgfaaGreat
