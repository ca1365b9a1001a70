/- The functions in the abstract language, worked out by Lean. -/
import Derived.Test.YtigdhgbkgfagiaaGreatZAlPc
set_option linter.unusedVariables false
set_option maxHeartbeats 1000000
set_option maxRecDepth 100000
namespace Go.Proofs.YtigdhgbkgfagiaaGreat
noncomputable def T3 : { F : AFunc // CT.func [[0, 1, 2, 3, 8], [18, 19, 20, 21, 22, 23, 24, 25, 26, 27, 28, 29, 30], [4, 5, 6, 7, 31], [31, 32, 33, 34, 35, 36], [4, 37, 38, 39, 40, 41], [42, 43, 44, 45, 46], [5, 47, 48, 49, 50, 51], [52, 53], [6, 7, 9, 10, 11, 12, 13, 14, 15, 16, 17, 54, 55, 56, 57, 58, 59, 60, 61, 62, 63, 64, 65, 66, 67, 68, 69, 70, 71, 72, 73, 74, 75, 76, 77, 78, 79, 80, 81, 82, 83, 84, 85, 86, 87, 88, 89, 90, 91, 92]] Tryz.f3 = some F } := FN _ Tryz.f3 93 4 [.t 8] (PC.seq ⟨_, by conv => lhs; cbv⟩ (PC.seq ⟨_, by conv => lhs; cbv⟩ (PC.seq ⟨_, by conv => lhs; cbv⟩ (PC.seq ⟨_, by conv => lhs; cbv⟩ (PC.seq ⟨_, by conv => lhs; cbv⟩ (PC.seq ⟨_, by conv => lhs; cbv⟩ ⟨_, by conv => lhs; cbv⟩))))))
theorem c3 : Cert 3 T3.1 := cert_of T3.2 Tryz.func3
noncomputable def T4 : { F : AFunc // CT.func [[0, 4], [11, 12, 13], [1, 2, 14], [14, 15, 16, 17, 18, 19, 20, 21], [1, 2, 22, 23, 24, 25, 26, 27, 28], [5, 6, 7, 8, 9, 10, 29, 30, 31, 32, 33, 34, 35, 36, 37, 38, 39, 40, 41]] Tryz.f4 = some F } := by
 refine ⟨?F, ?h⟩
 case h =>
  conv => lhs; cbv
theorem c4 : Cert 4 T4.1 := cert_of T4.2 Tryz.func4
noncomputable def T5 : { F : AFunc // CT.func [[0, 6], [14], [15, 16, 17, 18, 19, 20, 21, 22, 23, 24, 25, 26, 27, 28, 29, 30, 31], [1, 2, 3, 7, 32, 33], [32, 34, 35, 36, 37, 38, 39, 40], [1, 2, 3, 41, 42, 43, 44, 45, 46, 47, 48, 49], [10, 13, 50, 51, 52, 53, 54, 55, 56, 57, 58, 59, 60, 61, 62, 63, 64, 65], [7, 8, 9, 11, 12, 66], [7, 8, 9, 11, 12, 66, 67, 68, 69, 70, 71, 72, 73, 74, 75, 76, 77, 78, 79, 80, 81, 82, 83]] Tryz.f5 = some F } := by
 refine ⟨?F, ?h⟩
 case h =>
  conv => lhs; cbv
theorem c5 : Cert 5 T5.1 := cert_of T5.2 Tryz.func5
noncomputable def T6 : { F : AFunc // CT.func [[0, 2], [1, 3, 4, 5, 6, 7, 8, 9, 10, 11, 12, 13, 14, 15, 16, 17, 18, 19, 20, 21]] Tryz.f6 = some F } := by
 refine ⟨?F, ?h⟩
 case h =>
  conv => lhs; cbv
theorem c6 : Cert 6 T6.1 := cert_of T6.2 Tryz.func6
noncomputable def T7 : { F : AFunc // CT.func [[0, 2], [7, 8, 9, 10, 11, 12, 13, 14, 15, 16, 17], [18], [1, 3, 19], [19], [20, 21, 22, 23], [5, 25, 26, 87], [24, 27, 28, 29, 30, 31, 32, 33, 34, 35, 36, 37, 38, 39, 40, 41, 42, 43, 44, 45, 46, 47, 48, 49, 50, 51, 52, 53, 54, 55, 56, 57, 58, 59, 60, 61, 62, 63, 64, 65, 66, 67, 68, 69, 70, 71, 72, 73, 74], [], [75, 76, 77, 78, 79, 80, 81, 82, 83, 84, 85, 86], [88, 89], [87, 90, 91, 92, 93, 94, 95, 96, 97, 98, 99, 100, 101, 102, 103, 104, 105, 106, 107, 108, 109, 110, 111, 112, 113, 114, 115, 116], [4, 24], [117, 118, 119, 120], [122, 123], [121, 124, 125, 126, 127, 128, 129, 130, 131, 132, 133], [1, 3, 6, 121, 134, 135]] Tryz.f7 = some F } := FN _ Tryz.f7 136 1 [.t 2] (PC.seq ⟨_, by conv => lhs; cbv⟩ (PC.seq ⟨_, by conv => lhs; cbv⟩ (PC.seq ⟨_, by conv => lhs; cbv⟩ (PC.seq (PC.seq ⟨_, by conv => lhs; cbv⟩ (PC.block 0 (PC.loop (PC.seq ⟨_, by conv => lhs; cbv⟩ (PC.seq (PC.block 1 (PC.seq ⟨_, by conv => lhs; cbv⟩ ⟨_, by conv => lhs; cbv⟩)) ⟨_, by conv => lhs; cbv⟩))))) ⟨_, by conv => lhs; cbv⟩))))
theorem c7 : Cert 7 T7.1 := cert_of T7.2 Tryz.func7
noncomputable def T8 : { F : AFunc // CT.func [[0, 2], [4, 5, 6, 7, 8, 9, 10, 11, 12, 13, 14, 15, 16, 17, 18, 19, 20, 21, 22, 23, 24, 25, 26, 27, 28, 29, 30, 31, 32, 33, 34, 35, 36, 37, 38, 39, 40, 41, 42, 43, 44, 45, 46, 47], [1, 48], [48], [49, 50, 51, 52, 53], [55, 56, 87], [54, 57, 58, 59, 60, 61, 62, 63, 64, 65, 66, 67, 68, 69, 70, 71, 72, 73, 74, 75, 76, 77, 78, 79, 80, 81, 82, 83, 84, 85, 86], [1, 3, 87], [1, 3, 54]] Tryz.f8 = some F } := by
 refine ⟨?F, ?h⟩
 case h =>
  conv => lhs; cbv
theorem c8 : Cert 8 T8.1 := cert_of T8.2 Tryz.func8
noncomputable def T9 : { F : AFunc // CT.func [[0, 3], [4, 5], [1, 6, 7], [1, 6, 8, 9, 10]] Tryz.f9 = some F } := by
 refine ⟨?F, ?h⟩
 case h =>
  conv => lhs; cbv
theorem c9 : Cert 9 T9.1 := cert_of T9.2 Tryz.func9
noncomputable def T10 : { F : AFunc // CT.func [[0, 3], [4, 5], [1, 6, 7], [1, 6, 8, 9]] Tryz.f10 = some F } := by
 refine ⟨?F, ?h⟩
 case h =>
  conv => lhs; cbv
theorem c10 : Cert 10 T10.1 := cert_of T10.2 Tryz.func10
noncomputable def T11 : { F : AFunc // CT.func [[0, 2, 3], [], [], [4, 9, 10, 11, 12, 13, 14, 15, 16, 17], [1, 5, 18], [18, 19, 20, 21, 22, 23], [1, 24], [], [28, 29, 30], [8, 31, 32, 33, 34, 35, 36, 37, 38, 39, 40, 41, 42, 43], [44], [5, 6, 25, 26, 27, 28, 45, 46, 47, 48]] Tryz.f11 = some F } := by
 refine ⟨?F, ?h⟩
 case h =>
  conv => lhs; cbv
theorem c11 : Cert 11 T11.1 := cert_of T11.2 Tryz.func11
noncomputable def T12 : { F : AFunc // CT.func [[0, 2, 3], [14, 15, 16, 17, 18, 19], [4, 20, 21], [], [22, 23, 24, 25], [27, 28], [26, 29, 30, 31, 32, 33, 34, 35, 36, 37, 38, 39], [40, 41, 42, 43, 44, 45, 46, 47, 48, 49], [9, 11, 50, 51, 52, 53, 54, 55, 56], [8, 10, 57, 58, 59, 60, 61, 62], [1, 5, 7, 26, 63], [6, 64], [6, 64, 65, 66, 67, 68, 69], [12, 13, 70, 71]] Tryz.f12 = some F } := by
 refine ⟨?F, ?h⟩
 case h =>
  conv => lhs; cbv
theorem c12 : Cert 12 T12.1 := cert_of T12.2 Tryz.func12
noncomputable def T13 : { F : AFunc // CT.func [[0], [4], [3, 5, 6, 7, 8, 9, 10, 11, 12, 13, 14, 15, 16, 17, 18, 19, 20, 21, 22, 23, 24, 25, 26, 27, 28, 29, 30, 31, 32, 33, 34, 35, 36], [37, 38, 39, 40, 41, 42, 43, 44, 45, 46, 47, 48, 49, 50, 51, 52, 53, 54, 55, 56], [1, 57]] Tryz.f13 = some F } := by
 refine ⟨?F, ?h⟩
 case h =>
  conv => lhs; cbv
theorem c13 : Cert 13 T13.1 := cert_of T13.2 Tryz.func13
noncomputable def T14 : { F : AFunc // CT.func [[0, 1, 4], [2, 3, 5, 6, 7, 8, 9, 10, 11, 12, 13, 14, 15, 16, 17, 18, 19, 20, 21, 22, 23, 24, 25, 26, 27, 28, 29, 30, 31, 32, 33, 34, 35, 36, 37, 38, 39, 40, 41, 42, 43, 44, 45, 46, 47, 48, 49, 50, 51, 52, 53, 54, 55, 56, 57, 58]] Tryz.f14 = some F } := by
 refine ⟨?F, ?h⟩
 case h =>
  conv => lhs; cbv
theorem c14 : Cert 14 T14.1 := cert_of T14.2 Tryz.func14
noncomputable def T15 : { F : AFunc // CT.func [[0, 1, 4], [2, 3, 5, 6, 7, 8, 9, 10, 11, 12, 13, 14, 15, 16, 17, 18, 19, 20, 21, 22, 23, 24, 25, 26, 27, 28, 29, 30, 31, 32, 33, 34, 35, 36, 37, 38, 39, 40, 41, 42, 43, 44, 45, 46, 47, 48, 49, 50, 51, 52, 53, 54, 55, 56, 57, 58]] Tryz.f15 = some F } := by
 refine ⟨?F, ?h⟩
 case h =>
  conv => lhs; cbv
theorem c15 : Cert 15 T15.1 := cert_of T15.2 Tryz.func15
noncomputable def T16 : { F : AFunc // CT.func [[0, 6], [2, 3, 8, 9, 10, 11, 12, 13, 14], [1, 15], [15], [16, 17, 18], [20, 21, 26], [19, 22, 23, 24, 25], [1, 7, 26], [1, 7, 19]] Tryz.f16 = some F } := by
 refine ⟨?F, ?h⟩
 case h =>
  conv => lhs; cbv
theorem c16 : Cert 16 T16.1 := cert_of T16.2 Tryz.func16
noncomputable def T17 : { F : AFunc // CT.func [[0, 5, 6], [7, 12, 13, 14, 15, 16], [17], [1, 2, 8, 18, 19], [8, 18, 20, 21], [1, 2, 22], [2, 22, 23, 24, 25, 26, 27, 28, 29], [1], [], [33, 34, 35], [11, 36, 37, 38, 39, 40, 41], [42], [9, 30, 31, 32, 33, 43, 44, 45, 46, 47]] Tryz.f17 = some F } := by
 refine ⟨?F, ?h⟩
 case h =>
  conv => lhs; cbv
theorem c17 : Cert 17 T17.1 := cert_of T17.2 Tryz.func17
noncomputable def T18 : { F : AFunc // CT.func [[0, 4, 5, 6], [12, 13], [1, 2, 14], [14, 15, 16], [1, 2, 17], [17], [], [], [18, 19, 20], [22, 23], [21, 24, 25, 26, 27, 28, 29, 30, 31, 32, 33], [10, 34], [11, 35, 36, 37, 38], [1, 2, 7, 8, 9, 21, 39, 40, 41]] Tryz.f18 = some F } := by
 refine ⟨?F, ?h⟩
 case h =>
  conv => lhs; cbv
theorem c18 : Cert 18 T18.1 := cert_of T18.2 Tryz.func18
noncomputable def T19 : { F : AFunc // CT.func [[4], [6, 7, 8, 9], [0, 1, 10], [10], [11, 12, 13], [15, 16, 25], [14, 17, 18, 19, 20, 21, 22, 23, 24], [0, 1, 5, 25], [0, 1, 5, 14]] Tryz.f19 = some F } := by
 refine ⟨?F, ?h⟩
 case h =>
  conv => lhs; cbv
theorem c19 : Cert 19 T19.1 := cert_of T19.2 Tryz.func19
noncomputable def T20 : { F : AFunc // CT.func [[4], [6, 7, 8, 9], [0, 1, 10], [10], [11, 12, 13], [15, 16, 26], [14, 17, 18, 19, 20, 21, 22, 23, 24, 25], [0, 1, 5, 26], [0, 1, 5, 14]] Tryz.f20 = some F } := by
 refine ⟨?F, ?h⟩
 case h =>
  conv => lhs; cbv
theorem c20 : Cert 20 T20.1 := cert_of T20.2 Tryz.func20
noncomputable def T21 : { F : AFunc // CT.func [[0], [4, 5, 6, 7, 8, 9, 10], [1, 2, 3, 11, 12, 13, 14, 15, 16, 17, 18, 19, 20, 21, 22, 23, 24, 25, 26, 27, 28, 29, 30]] Tryz.f21 = some F } := by
 refine ⟨?F, ?h⟩
 case h =>
  conv => lhs; cbv
theorem c21 : Cert 21 T21.1 := cert_of T21.2 Tryz.func21
noncomputable def T22 : { F : AFunc // CT.func [[0, 2], [4, 5, 6, 7, 8, 9, 10, 11, 12], [1, 13], [13], [14, 15, 16, 17], [19, 20, 27], [18, 21, 22, 23, 24, 25, 26], [1, 3, 27], [1, 3, 18]] Tryz.f22 = some F } := by
 refine ⟨?F, ?h⟩
 case h =>
  conv => lhs; cbv
theorem c22 : Cert 22 T22.1 := cert_of T22.2 Tryz.func22
noncomputable def T23 : { F : AFunc // CT.func [[0, 2], [1, 3, 4, 5, 6, 7, 8, 9, 10, 11, 12, 13, 14, 15, 16, 17, 18, 19, 20, 21, 22]] Tryz.f23 = some F } := by
 refine ⟨?F, ?h⟩
 case h =>
  conv => lhs; cbv
theorem c23 : Cert 23 T23.1 := cert_of T23.2 Tryz.func23
noncomputable def T24 : { F : AFunc // CT.func [[2], [4, 5], [0, 6], [6], [7, 8, 9], [11, 12, 19], [10, 13, 14, 15, 16, 17, 18], [0, 3, 19], [0, 3, 10]] Tryz.f24 = some F } := by
 refine ⟨?F, ?h⟩
 case h =>
  conv => lhs; cbv
theorem c24 : Cert 24 T24.1 := cert_of T24.2 Tryz.func24
noncomputable def T25 : { F : AFunc // CT.func [[2], [5, 6], [0, 7], [7], [8, 9, 10], [4, 12, 13, 37], [11, 14, 15, 16, 17, 18, 19, 20, 21, 22, 23, 24, 25, 26, 27, 28], [0, 3, 29], [29], [30, 31, 32, 33, 34, 35, 36], [38, 39, 48], [37, 40, 41, 42, 43, 44, 45, 46, 47], [0, 3, 4, 48], [0, 3, 11]] Tryz.f25 = some F } := by
 refine ⟨?F, ?h⟩
 case h =>
  conv => lhs; cbv
theorem c25 : Cert 25 T25.1 := cert_of T25.2 Tryz.func25
noncomputable def T26 : { F : AFunc // CT.func [[0, 2], [7, 8], [3, 9, 10, 11, 12, 13, 14, 15, 16, 17, 18, 19, 20, 21, 22, 23, 24, 25, 26, 27, 28, 29, 30, 31, 32, 33, 34, 35, 36, 37, 38], [1, 39], [39, 40, 41, 42, 43, 44, 45, 46, 47, 48, 49, 50, 51, 52, 53, 54, 55], [1, 56], [56, 57, 58, 59, 60, 61, 62, 63], [], [1, 4, 5, 6, 64, 65, 66, 67, 68, 69, 70, 71, 72, 73, 74, 75, 76, 77, 78, 79, 80, 81, 82, 83, 84, 85, 86, 87, 88]] Tryz.f26 = some F } := by
 refine ⟨?F, ?h⟩
 case h =>
  conv => lhs; cbv
theorem c26 : Cert 26 T26.1 := cert_of T26.2 Tryz.func26
noncomputable def T27 : { F : AFunc // CT.func [[0, 2], [6, 7, 8, 9, 10, 11, 12, 13, 14, 15, 16, 17, 18, 19, 20, 21, 22, 23, 24, 25, 26, 27, 28, 29, 30, 31, 32, 33], [1, 34], [4, 34, 35, 36, 37, 38, 39, 40, 41], [3, 42, 43, 44, 45, 46, 47, 48, 49, 50, 51, 52, 53, 54], [1, 55], [55], [56, 57, 58, 59], [61, 62, 76], [60, 63, 64, 65, 66, 67, 68, 69, 70, 71, 72, 73, 74, 75], [1, 5, 76], [1, 5, 60]] Tryz.f27 = some F } := by
 refine ⟨?F, ?h⟩
 case h =>
  conv => lhs; cbv
theorem c27 : Cert 27 T27.1 := cert_of T27.2 Tryz.func27
noncomputable def T28 : { F : AFunc // CT.func [[2], [0, 3, 4]] Tryz.f28 = some F } := by
 refine ⟨?F, ?h⟩
 case h =>
  conv => lhs; cbv
theorem c28 : Cert 28 T28.1 := cert_of T28.2 Tryz.func28
noncomputable def T29 : { F : AFunc // CT.func [[4], [0, 1, 5, 6, 7, 8]] Tryz.f29 = some F } := by
 refine ⟨?F, ?h⟩
 case h =>
  conv => lhs; cbv
theorem c29 : Cert 29 T29.1 := cert_of T29.2 Tryz.func29
noncomputable def T30 : { F : AFunc // CT.func [[2], [0, 3, 4, 5, 6, 7, 8]] Tryz.f30 = some F } := by
 refine ⟨?F, ?h⟩
 case h =>
  conv => lhs; cbv
theorem c30 : Cert 30 T30.1 := cert_of T30.2 Tryz.func30
noncomputable def T31 : { F : AFunc // CT.func [[], [0], [], [8, 9, 10], [4, 11, 12, 13, 14, 15], [16], [5, 6, 7, 8, 17]] Tryz.f31 = some F } := by
 refine ⟨?F, ?h⟩
 case h =>
  conv => lhs; cbv
theorem c31 : Cert 31 T31.1 := cert_of T31.2 Tryz.func31
noncomputable def T32 : { F : AFunc // CT.func [[4], [0, 1, 5, 6, 7, 8]] Tryz.f32 = some F } := by
 refine ⟨?F, ?h⟩
 case h =>
  conv => lhs; cbv
theorem c32 : Cert 32 T32.1 := cert_of T32.2 Tryz.func32
noncomputable def T33 : { F : AFunc // CT.func [[0, 3], [1, 2, 4, 5, 6, 7, 8, 9, 10, 11, 12, 13, 14]] Tryz.f33 = some F } := by
 refine ⟨?F, ?h⟩
 case h =>
  conv => lhs; cbv
theorem c33 : Cert 33 T33.1 := cert_of T33.2 Tryz.func33
noncomputable def T34 : { F : AFunc // CT.func [[3], [0], [], [9, 10, 11], [5, 12, 13, 14, 15, 16, 17], [18], [6, 7, 8, 19, 20], [3, 19, 21], [6, 7, 8, 9, 22]] Tryz.f34 = some F } := by
 refine ⟨?F, ?h⟩
 case h =>
  conv => lhs; cbv
theorem c34 : Cert 34 T34.1 := cert_of T34.2 Tryz.func34
noncomputable def T35 : { F : AFunc // CT.func [[2, 3], [], [], [6, 7, 8], [10, 11], [9, 12, 13, 14, 15, 16, 17, 18, 19, 20, 21, 22], [0, 4, 5, 23], [23, 24, 25, 26, 27, 28, 29, 30, 31], [0, 4, 5, 9, 32]] Tryz.f35 = some F } := by
 refine ⟨?F, ?h⟩
 case h =>
  conv => lhs; cbv
theorem c35 : Cert 35 T35.1 := cert_of T35.2 Tryz.func35
noncomputable def T36 : { F : AFunc // CT.func [[2, 3], [], [], [8, 9, 10], [12, 13, 23], [11, 14, 15, 16, 17, 18, 19, 20, 21], [22], [0, 4, 5, 23], [4, 5, 11], [], [24, 25, 26], [28, 29], [27, 30, 31, 32, 33, 34, 35, 36], [0, 6, 7, 27, 37]] Tryz.f36 = some F } := by
 refine ⟨?F, ?h⟩
 case h =>
  conv => lhs; cbv
theorem c36 : Cert 36 T36.1 := cert_of T36.2 Tryz.func36
noncomputable def T37 : { F : AFunc // CT.func [[0], [3, 4, 5, 6], [1, 7]] Tryz.f37 = some F } := by
 refine ⟨?F, ?h⟩
 case h =>
  conv => lhs; cbv
theorem c37 : Cert 37 T37.1 := cert_of T37.2 Tryz.func37
noncomputable def T38 : { F : AFunc // CT.func [[0], [1, 3, 4, 5, 6, 7, 8, 9, 10, 11]] Tryz.f38 = some F } := by
 refine ⟨?F, ?h⟩
 case h =>
  conv => lhs; cbv
theorem c38 : Cert 38 T38.1 := cert_of T38.2 Tryz.func38
noncomputable def T39 : { F : AFunc // CT.func [[2], [3], [0, 4], [0, 4, 5, 6, 7]] Tryz.f39 = some F } := by
 refine ⟨?F, ?h⟩
 case h =>
  conv => lhs; cbv
theorem c39 : Cert 39 T39.1 := cert_of T39.2 Tryz.func39
noncomputable def T40 : { F : AFunc // CT.func [[2], [3], [0, 4], [0, 4, 5, 6, 7]] Tryz.f40 = some F } := by
 refine ⟨?F, ?h⟩
 case h =>
  conv => lhs; cbv
theorem c40 : Cert 40 T40.1 := cert_of T40.2 Tryz.func40
noncomputable def T41 : { F : AFunc // CT.func [[2], [0, 6, 7], [8], [], [11, 12], [13, 14, 15, 16, 17, 18, 19, 20, 21, 22], [23, 24, 25, 26, 27], [], [30, 31], [5, 32, 33, 34, 35, 36, 37, 38, 39, 40, 41, 42, 43, 44, 45, 46, 47], [48], [4, 28, 29, 30, 49], [3, 9, 10, 11, 50]] Tryz.f41 = some F } := by
 refine ⟨?F, ?h⟩
 case h =>
  conv => lhs; cbv
theorem c41 : Cert 41 T41.1 := cert_of T41.2 Tryz.func41
noncomputable def T42 : { F : AFunc // CT.func [[0], [6, 7, 8, 9, 10, 11, 12, 13, 14, 15, 16, 17], [18], [], [22, 23, 24, 25], [3, 4, 26, 27, 28, 29, 30, 31, 32, 33, 34, 35, 36, 37, 38, 39, 40, 41, 42], [43], [19, 20, 21, 22, 44, 45], [], [48, 49], [5, 50, 51, 52, 53, 54, 55, 56, 57, 58, 59, 60, 61], [62], [1, 46, 47, 48, 63]] Tryz.f42 = some F } := by
 refine ⟨?F, ?h⟩
 case h =>
  conv => lhs; cbv
theorem c42 : Cert 42 T42.1 := cert_of T42.2 Tryz.func42
noncomputable def T43 : { F : AFunc // CT.func [[0], [], [1, 6], [], [10, 11, 12], [5, 13, 14, 15, 16, 17, 18, 19], [20], [3, 7, 8, 9, 10, 21]] Tryz.f43 = some F } := by
 refine ⟨?F, ?h⟩
 case h =>
  conv => lhs; cbv
theorem c43 : Cert 43 T43.1 := cert_of T43.2 Tryz.func43
noncomputable def T44 : { F : AFunc // CT.func [[0, 1, 4], [2, 3, 5, 6, 7, 8, 9, 10, 11, 12, 13, 14, 15, 16, 17, 18, 19, 20, 21, 22, 23, 24, 25, 26, 27, 28, 29, 30, 31, 32, 33, 34, 35, 36, 37]] Tryz.f44 = some F } := by
 refine ⟨?F, ?h⟩
 case h =>
  conv => lhs; cbv
theorem c44 : Cert 44 T44.1 := cert_of T44.2 Tryz.func44
noncomputable def T45 : { F : AFunc // CT.func [[4], [6, 7, 8, 9], [0, 1, 10], [10], [11, 12, 13], [15, 16, 25], [14, 17, 18, 19, 20, 21, 22, 23, 24], [0, 1, 5, 25], [0, 1, 5, 14]] Tryz.f45 = some F } := by
 refine ⟨?F, ?h⟩
 case h =>
  conv => lhs; cbv
theorem c45 : Cert 45 T45.1 := cert_of T45.2 Tryz.func45
noncomputable def T46 : { F : AFunc // CT.func [[4], [7, 8, 9, 10], [0, 1, 11], [11], [12, 13, 14], [6, 16, 17, 51], [15, 18, 19, 20, 21, 22, 23, 24, 25, 26, 27, 28, 29, 30, 31, 32, 33, 34, 35, 36, 37, 38, 39, 40, 41, 42], [0, 1, 5, 43], [43], [44, 45, 46, 47, 48, 49, 50], [52, 53, 71], [51, 54, 55, 56, 57, 58, 59, 60, 61, 62, 63, 64, 65, 66, 67, 68, 69, 70], [0, 1, 5, 6, 71], [0, 1, 5, 15]] Tryz.f46 = some F } := by
 refine ⟨?F, ?h⟩
 case h =>
  conv => lhs; cbv
theorem c46 : Cert 46 T46.1 := cert_of T46.2 Tryz.func46
noncomputable def T47 : { F : AFunc // CT.func [[4], [6, 7, 8, 9], [0, 1, 10], [10], [11, 12, 13], [15, 16, 25], [14, 17, 18, 19, 20, 21, 22, 23, 24], [0, 1, 5, 25], [0, 1, 5, 14]] Tryz.f47 = some F } := by
 refine ⟨?F, ?h⟩
 case h =>
  conv => lhs; cbv
theorem c47 : Cert 47 T47.1 := cert_of T47.2 Tryz.func47
noncomputable def T48 : { F : AFunc // CT.func [[0, 1, 4], [2, 3, 5, 6, 7, 8, 9, 10, 11, 12, 13, 14, 15, 16, 17, 18, 19, 20, 21, 22, 23]] Tryz.f48 = some F } := by
 refine ⟨?F, ?h⟩
 case h =>
  conv => lhs; cbv
theorem c48 : Cert 48 T48.1 := cert_of T48.2 Tryz.func48
noncomputable def T49 : { F : AFunc // CT.func [[0, 1, 4], [6, 7, 8, 9, 10, 11], [2, 3, 12], [12], [13, 14, 15, 16], [18, 19, 31], [17, 20, 21, 22, 23, 24, 25, 26, 27, 28, 29, 30], [2, 3, 5, 31], [2, 3, 5, 17]] Tryz.f49 = some F } := by
 refine ⟨?F, ?h⟩
 case h =>
  conv => lhs; cbv
theorem c49 : Cert 49 T49.1 := cert_of T49.2 Tryz.func49
noncomputable def T50 : { F : AFunc // CT.func [[0, 1, 4], [2, 3, 5, 6, 7, 8, 9, 10, 11, 12, 13, 14, 15, 16, 17, 18, 19, 20, 21, 22, 23, 24, 25, 26, 27, 28, 29, 30, 31, 32, 33, 34, 35, 36, 37]] Tryz.f50 = some F } := by
 refine ⟨?F, ?h⟩
 case h =>
  conv => lhs; cbv
theorem c50 : Cert 50 T50.1 := cert_of T50.2 Tryz.func50
noncomputable def T51 : { F : AFunc // CT.func [[4], [6, 7, 8, 9], [0, 1, 10], [10, 11], [], [14, 15], [5, 16, 17, 18, 19, 20, 21, 22, 23], [0, 1, 12, 13, 24], [24, 25], [0, 1, 12, 13, 14]] Tryz.f51 = some F } := by
 refine ⟨?F, ?h⟩
 case h =>
  conv => lhs; cbv
theorem c51 : Cert 51 T51.1 := cert_of T51.2 Tryz.func51
noncomputable def T52 : { F : AFunc // CT.func [[4], [0, 1, 5, 6, 7]] Tryz.f52 = some F } := by
 refine ⟨?F, ?h⟩
 case h =>
  conv => lhs; cbv
theorem c52 : Cert 52 T52.1 := cert_of T52.2 Tryz.func52
noncomputable def T53 : { F : AFunc // CT.func [[4], [6, 7, 8, 9], [0, 1, 10], [10, 11], [], [14, 15], [5, 16, 17, 18, 19, 20, 21, 22, 23], [0, 1, 12, 13, 24], [24, 25], [0, 1, 12, 13, 14]] Tryz.f53 = some F } := by
 refine ⟨?F, ?h⟩
 case h =>
  conv => lhs; cbv
theorem c53 : Cert 53 T53.1 := cert_of T53.2 Tryz.func53
noncomputable def T54 : { F : AFunc // CT.func [[0, 1, 4], [], [], [2, 3, 5, 6, 7, 8, 9, 10, 11, 12, 13, 14, 15, 16, 17, 18, 19, 20, 21, 22, 23, 24, 25, 26, 27]] Tryz.f54 = some F } := by
 refine ⟨?F, ?h⟩
 case h =>
  conv => lhs; cbv
theorem c54 : Cert 54 T54.1 := cert_of T54.2 Tryz.func54
noncomputable def T55 : { F : AFunc // CT.func [[0, 1, 4], [2, 3, 5, 6, 7, 8, 9]] Tryz.f55 = some F } := by
 refine ⟨?F, ?h⟩
 case h =>
  conv => lhs; cbv
theorem c55 : Cert 55 T55.1 := cert_of T55.2 Tryz.func55
noncomputable def T56 : { F : AFunc // CT.func [[0, 2], [4, 5, 6, 7, 8, 9, 10, 11, 12, 13, 14, 15, 16, 17, 18, 19, 20, 21, 22, 23, 24, 25, 26, 27, 28, 29, 30, 31, 32, 33, 34, 35, 36], [1, 37], [37], [38, 39, 40, 41], [43, 44, 51], [42, 45, 46, 47, 48, 49, 50], [1, 3, 51], [1, 3, 42]] Tryz.f56 = some F } := by
 refine ⟨?F, ?h⟩
 case h =>
  conv => lhs; cbv
theorem c56 : Cert 56 T56.1 := cert_of T56.2 Tryz.func56
end Go.Proofs.YtigdhgbkgfagiaaGreat
