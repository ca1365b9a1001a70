/- The functions in the abstract language, worked out by Lean. -/
import Derived.Test.YtaehkmmlacpleaaAlX
set_option linter.unusedVariables false
set_option maxHeartbeats 1000000
set_option maxRecDepth 100000
namespace Go.Proofs.Ytaehkmmlacpleaa
-- suffrage/count.turns
noncomputable def T19 : { F : AFunc // CT.func [[2], [0, 6, 7, 8], [], [], [12, 13, 14, 15], [4, 5, 16, 17], [3, 9, 10, 11, 18], [18, 19], [3, 9, 10, 11, 12, 20, 21, 22, 23, 24, 25, 26, 27]] Try.f19 = some F } := by
  refine ⟨?F, ?h⟩
  case h =>
    conv => lhs; cbv
theorem c19 : Cert 19 T19.1 := cert_of T19.2 Try.func19
-- suffrage/count.fits
noncomputable def T20 : { F : AFunc // CT.func [[0, 1, 4], [10], [11, 12, 13, 14], [2, 3, 5, 15], [15, 16], [], [20, 21, 22], [7, 23, 24, 25, 26, 27, 28, 29, 30, 31, 32, 33, 34, 35, 36, 37, 38, 39, 40], [2, 3, 5, 17, 18, 19, 41], [41, 42], [2, 3, 17, 18, 19, 20, 43], [], [47, 48, 49], [9, 50, 51, 52, 53, 54, 55, 56, 57, 58, 59, 60, 61], [5, 44, 45, 46, 62], [62, 63], [5, 44, 45, 46, 47]] Try.f20 = some F } := by
  refine ⟨?F, ?h⟩
  case h =>
    conv => lhs; cbv
theorem c20 : Cert 20 T20.1 := cert_of T20.2 Try.func20
-- suffrage/count.Rename$1
noncomputable def T21 : { F : AFunc // CT.func [[], [], [8, 9, 10, 11], [3, 4, 12, 13, 14, 15, 16, 17, 18], [19]] Try.f21 = some F } := by
  refine ⟨?F, ?h⟩
  case h =>
    conv => lhs; cbv
theorem c21 : Cert 21 T21.1 := cert_of T21.2 Try.func21
-- slices.Sort[[]int,int]
noncomputable def T22 : { F : AFunc // CT.func [[3, 4], [0, 2, 5, 6, 7, 8, 9, 10]] Try.f22 = some F } := by
  refine ⟨?F, ?h⟩
  case h =>
    conv => lhs; cbv
theorem c22 : Cert 22 T22.1 := cert_of T22.2 Try.func22
-- suffrage/suffrageref22.Perm
noncomputable def T23 : { F : AFunc // CT.func [[2], [5, 6, 7, 8, 9, 10, 11], [0, 12], [12], [13, 14, 15], [4, 17, 18, 35], [16, 19, 20, 21, 22, 23, 24, 25, 26, 27, 28, 29, 30, 31], [0, 3, 32], [32], [33, 34], [36, 37, 46], [35, 38, 39, 40, 41, 42, 43, 44, 45], [0, 3, 4, 46], [0, 3, 16]] Try.f23 = some F } := by
  refine ⟨?F, ?h⟩
  case h =>
    conv => lhs; cbv
theorem c23 : Cert 23 T23.1 := cert_of T23.2 Try.func23
-- suffrage/suffrageref22.Fits
noncomputable def T24 : { F : AFunc // CT.func [[0, 4], [7, 8, 9, 10], [1, 2, 11], [11], [12, 13, 14, 15], [17, 18, 49], [16, 19, 20, 21, 22, 23, 24, 25, 26, 27, 28, 29, 30, 31, 32, 33, 34, 35, 36, 37, 38, 39, 40, 41, 42, 43, 44, 45, 46, 47, 48], [1, 2, 5, 49], [5, 16], [50, 51, 52, 53], [55, 56, 77], [54, 57, 58, 59, 60, 61, 62, 63, 64, 65, 66, 67, 68, 69, 70, 71, 72, 73, 74, 75, 76], [1, 2, 6, 77], [1, 2, 6, 54]] Try.f24 = some F } := by
  refine ⟨?F, ?h⟩
  case h =>
    conv => lhs; cbv
theorem c24 : Cert 24 T24.1 := cert_of T24.2 Try.func24
-- suffrage/suffrageref22.named
noncomputable def T25 : { F : AFunc // CT.func [[4], [], [], [7, 8, 9], [11, 12], [10, 13, 14, 15, 16, 17, 18, 19, 20, 21, 22], [0, 1, 5, 6, 10, 23]] Try.f25 = some F } := by
  refine ⟨?F, ?h⟩
  case h =>
    conv => lhs; cbv
theorem c25 : Cert 25 T25.1 := cert_of T25.2 Try.func25
-- suffrage/suffrageref22.rising
noncomputable def T26 : { F : AFunc // CT.func [[2], [], [], [6], [5, 8, 9, 13], [7], [10, 11, 12], [14, 15, 21], [13, 16, 17, 18, 19, 20], [21, 22, 23, 24, 25], [0, 3, 4, 7, 26]] Try.f26 = some F } := by
  refine ⟨?F, ?h⟩
  case h =>
    conv => lhs; cbv
theorem c26 : Cert 26 T26.1 := cert_of T26.2 Try.func26
-- suffrage/suffrageref11.rounds
noncomputable def T27 : { F : AFunc // CT.func [[4], [6, 7, 8, 9], [0, 1, 10], [10], [11, 12, 13], [15, 16, 70], [14, 17, 18, 19, 20, 21, 22, 23, 24, 25, 26, 27, 28, 29, 30, 31, 32, 33, 34, 35, 36, 37, 38, 39, 40, 41, 42, 43, 44, 45, 46, 47, 48, 49, 50, 51, 52, 53, 54, 55, 56, 57, 58, 59, 60, 61, 62, 63, 64, 65, 66, 67, 68, 69], [0, 1, 5, 70], [0, 1, 5, 14]] Try.f27 = some F } := by
  refine ⟨?F, ?h⟩
  case h =>
    conv => lhs; cbv
theorem c27 : Cert 27 T27.1 := cert_of T27.2 Try.func27
-- suffrage/suffrageref11.Ties
noncomputable def T28 : { F : AFunc // CT.func [[4], [6, 7, 8, 9], [0, 1, 10], [10], [11, 12, 13], [15, 16, 41], [14, 17, 18, 19, 20, 21, 22, 23, 24, 25, 26, 27, 28, 29, 30, 31, 32, 33, 34, 35, 36, 37, 38, 39, 40], [0, 1, 5, 41], [0, 1, 5, 14]] Try.f28 = some F } := by
  refine ⟨?F, ?h⟩
  case h =>
    conv => lhs; cbv
theorem c28 : Cert 28 T28.1 := cert_of T28.2 Try.func28
-- suffrage/count.Same$1
noncomputable def T29 : { F : AFunc // CT.func [[0, 1, 4], [2, 3, 5, 6, 7, 8, 9, 10, 11, 12, 13, 14, 15, 16, 17, 18, 19, 20, 21, 22, 23, 24, 25, 26, 27, 28, 29, 30]] Try.f29 = some F } := by
  refine ⟨?F, ?h⟩
  case h =>
    conv => lhs; cbv
theorem c29 : Cert 29 T29.1 := cert_of T29.2 Try.func29
-- slices.EqualFunc[[]suffrage/api.Ratio,[]suffrage/api.Ratio,suffrage/api.Ratio,suffrage/api.Ratio]
noncomputable def T30 : { F : AFunc // CT.func [[6], [10, 11, 12, 13], [0, 1, 2, 14], [0, 14], [], [18, 19, 20, 21], [7, 22, 23, 24, 25], [8, 9, 26, 27, 28, 29], [1, 2, 15, 16, 17, 30], [30, 31], [1, 2, 15, 16, 17, 18]] Try.f30 = some F } := by
  refine ⟨?F, ?h⟩
  case h =>
    conv => lhs; cbv
theorem c30 : Cert 30 T30.1 := cert_of T30.2 Try.func30
-- suffrage/ratio.Same
noncomputable def T31 : { F : AFunc // CT.func [[0, 1, 4], [2, 3, 5, 6, 7, 8, 9, 10, 11, 12, 13, 14, 15, 16, 17, 18, 19, 20, 21, 22, 23]] Try.f31 = some F } := by
  refine ⟨?F, ?h⟩
  case h =>
    conv => lhs; cbv
theorem c31 : Cert 31 T31.1 := cert_of T31.2 Try.func31
-- slices.Equal[[]int,int]
noncomputable def T32 : { F : AFunc // CT.func [[4], [6, 7, 8, 9], [0, 1, 10], [10, 11], [], [14, 15], [5, 16, 17, 18, 19, 20, 21, 22, 23], [0, 1, 12, 13, 24], [24, 25], [0, 1, 12, 13, 14]] Try.f32 = some F } := by
  refine ⟨?F, ?h⟩
  case h =>
    conv => lhs; cbv
theorem c32 : Cert 32 T32.1 := cert_of T32.2 Try.func32
-- suffrage/count.Same$2
noncomputable def T33 : { F : AFunc // CT.func [[0, 1, 4], [2, 3, 5, 6, 7, 8, 9, 10, 11, 12, 13, 14, 15, 16]] Try.f33 = some F } := by
  refine ⟨?F, ?h⟩
  case h =>
    conv => lhs; cbv
theorem c33 : Cert 33 T33.1 := cert_of T33.2 Try.func33
-- slices.EqualFunc[[]suffrage/api.Round,[]suffrage/api.Round,suffrage/api.Round,suffrage/api.Round]
noncomputable def T34 : { F : AFunc // CT.func [[6], [10, 11, 12, 13], [0, 1, 2, 14], [0, 14], [], [18, 19, 20, 21], [7, 22, 23, 24, 25], [8, 9, 26, 27, 28, 29], [1, 2, 15, 16, 17, 30], [30, 31], [1, 2, 15, 16, 17, 18]] Try.f34 = some F } := by
  refine ⟨?F, ?h⟩
  case h =>
    conv => lhs; cbv
theorem c34 : Cert 34 T34.1 := cert_of T34.2 Try.func34
end Go.Proofs.Ytaehkmmlacpleaa
