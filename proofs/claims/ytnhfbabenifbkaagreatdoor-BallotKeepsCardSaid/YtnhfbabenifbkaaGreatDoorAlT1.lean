/- The functions in the abstract language, worked out by Lean. -/
import Derived.Test.YtnhfbabenifbkaaGreatDoorAlX
set_option linter.unusedVariables false
set_option maxHeartbeats 1000000
set_option maxRecDepth 100000
namespace Go.Proofs.YtnhfbabenifbkaaGreatDoor
-- suffrage/ballot.Read
noncomputable def T27 : { F : AFunc // CT.func [[3], [12, 13], [14, 15, 16, 17, 18, 19, 20, 21], [4, 22], [], [26, 27, 28], [7, 9, 29, 30, 31, 32, 33], [8, 34, 35, 36, 37, 38, 39], [40], [23, 24, 25, 26, 41, 42, 43, 44, 45], [0, 10, 11, 46, 47, 48, 49, 50, 51], [5, 52, 53], [5, 52, 54]] Tryz.f27 = some F } := by
  refine ⟨?F, ?h⟩
  case h =>
    conv => lhs; cbv
theorem c27 : Cert 27 T27.1 := cert_of T27.2 Tryz.func27
-- suffrage/suffrageref08.Read
noncomputable def T28 : { F : AFunc // CT.func [[3], [], [], [], [9, 10, 11], [13, 14, 24], [12, 15, 16, 17, 18, 19, 20, 21, 22, 23], [5, 24, 25, 26, 27, 28, 29, 30, 31], [32, 33], [0, 5, 6, 12], [34, 35], [38], [36, 37, 39], [37, 41], [36, 40, 42], [36, 40, 44], [43, 45], [43], [46, 47, 48], [50, 51], [49, 52, 53, 54, 55, 56, 57, 58, 59, 60, 61], [4, 8, 49, 62, 63, 64, 65], [7, 66, 67], [7, 66, 68]] Tryz.f28 = some F } := by
  refine ⟨?F, ?h⟩
  case h =>
    conv => lhs; cbv
theorem c28 : Cert 28 T28.1 := cert_of T28.2 Tryz.func28
-- suffrage/suffrageref08.Ints
noncomputable def T29 : { F : AFunc // CT.func [[4], [6, 7, 8, 9], [0, 1, 10], [10], [11, 12, 13], [15, 16, 25], [14, 17, 18, 19, 20, 21, 22, 23, 24], [0, 1, 5, 25], [0, 1, 5, 14]] Tryz.f29 = some F } := by
  refine ⟨?F, ?h⟩
  case h =>
    conv => lhs; cbv
theorem c29 : Cert 29 T29.1 := cert_of T29.2 Tryz.func29
-- suffrage/suffragelaw08.right
noncomputable def T30 : { F : AFunc // CT.func [[0, 4], [1, 2, 5, 6, 7, 8]] Tryz.f30 = some F } := by
  refine ⟨?F, ?h⟩
  case h =>
    conv => lhs; cbv
theorem c30 : Cert 30 T30.1 := cert_of T30.2 Tryz.func30
-- suffrage/suffrageref08.Turned
noncomputable def T31 : { F : AFunc // CT.func [[2], [], [4, 5, 6], [8, 9, 13], [7, 10, 11, 12], [0, 3, 13], [0, 3, 7, 14, 15, 16, 17, 18, 19, 20, 21]] Tryz.f31 = some F } := by
  refine ⟨?F, ?h⟩
  case h =>
    conv => lhs; cbv
theorem c31 : Cert 31 T31.1 := cert_of T31.2 Tryz.func31
-- suffrage/suffrageref08.Great
noncomputable def T32 : { F : AFunc // CT.func [[0, 2], [1, 3, 4, 5, 6]] Tryz.f32 = some F } := by
  refine ⟨?F, ?h⟩
  case h =>
    conv => lhs; cbv
theorem c32 : Cert 32 T32.1 := cert_of T32.2 Tryz.func32
-- suffrage/suffragelaw08.of
noncomputable def T33 : { F : AFunc // CT.func [[], [0, 1, 5, 6, 7]] Tryz.f33 = some F } := by
  refine ⟨?F, ?h⟩
  case h =>
    conv => lhs; cbv
theorem c33 : Cert 33 T33.1 := cert_of T33.2 Tryz.func33
-- suffrage/ballot.alone
noncomputable def T34 : { F : AFunc // CT.func [[0, 2], [3, 4], [1, 5, 6, 7, 8, 9, 10, 11], [1, 5, 12, 13]] Tryz.f34 = some F } := by
  refine ⟨?F, ?h⟩
  case h =>
    conv => lhs; cbv
theorem c34 : Cert 34 T34.1 := cert_of T34.2 Tryz.func34
-- slices.Max[[]int,int]
noncomputable def T35 : { F : AFunc // CT.func [[2], [5, 6], [7, 8], [7, 9, 10, 11], [], [12, 13, 14], [16, 17], [15, 18, 19, 20, 21, 22, 23], [0, 3, 4, 15, 24]] Tryz.f35 = some F } := by
  refine ⟨?F, ?h⟩
  case h =>
    conv => lhs; cbv
theorem c35 : Cert 35 T35.1 := cert_of T35.2 Tryz.func35
-- slices.Index[[]int,int]
noncomputable def T36 : { F : AFunc // CT.func [[4], [6], [], [9, 10], [11, 12, 13, 14, 15], [0, 1, 5, 7, 8, 16, 17], [5, 16, 18], [0, 1, 7, 8, 9]] Tryz.f36 = some F } := by
  refine ⟨?F, ?h⟩
  case h =>
    conv => lhs; cbv
theorem c36 : Cert 36 T36.1 := cert_of T36.2 Tryz.func36
-- suffrage/suffrageref08.among
noncomputable def T37 : { F : AFunc // CT.func [[0, 2], [3, 4], [1, 5, 6, 7, 8], [1, 5]] Tryz.f37 = some F } := by
  refine ⟨?F, ?h⟩
  case h =>
    conv => lhs; cbv
theorem c37 : Cert 37 T37.1 := cert_of T37.2 Tryz.func37
-- suffrage/ballot.within
noncomputable def T38 : { F : AFunc // CT.func [[6], [0, 1, 2, 7, 8, 9, 10, 11, 12, 13, 14]] Tryz.f38 = some F } := by
  refine ⟨?F, ?h⟩
  case h =>
    conv => lhs; cbv
theorem c38 : Cert 38 T38.1 := cert_of T38.2 Tryz.func38
-- suffrage/ballot.fine
noncomputable def T39 : { F : AFunc // CT.func [[0, 4], [10], [], [14, 15, 16], [6, 17, 18, 19, 20, 21, 22, 23, 24, 25, 26, 27, 28, 29, 30, 31, 32, 33, 34], [1, 2, 11, 12, 13, 35], [35, 36], [11, 12, 13, 14, 37], [40], [1, 39, 42], [38, 41, 44], [1, 2, 38, 39, 45, 46, 47, 48, 49], [38, 41, 50, 51, 52], [2, 53], [43, 53], [2, 54], [], [58, 59, 60], [61, 62], [7, 9, 55, 56, 57, 63], [9, 63, 64, 65], [66], [7, 55, 56, 57, 58], [2, 43]] Tryz.f39 = some F } := by
  refine ⟨?F, ?h⟩
  case h =>
    conv => lhs; cbv
theorem c39 : Cert 39 T39.1 := cert_of T39.2 Tryz.func39
-- suffrage/suffrageref08.Fine
noncomputable def T40 : { F : AFunc // CT.func [[0, 4], [8, 9], [10, 11], [2, 12], [13, 14, 15], [17, 18, 30], [16, 19, 20, 21, 22, 23, 24, 25, 26, 27, 28, 29], [1, 5, 6, 30], [1, 5, 6, 16, 31, 32, 33, 34], [12, 35, 36, 37, 38, 39, 40, 41], [1, 2, 5, 42], [42], [43, 44, 45], [47, 48, 89], [46, 49, 50, 51, 52, 53, 54, 55, 56, 57, 58, 59, 60], [1, 2, 5, 7, 61], [61, 62, 63, 64, 65, 66, 67, 68, 69, 70, 71, 72, 73, 74, 75, 76, 77, 78, 79], [1, 2, 5, 7, 80], [80, 81, 82, 83, 84, 85, 86, 87, 88], [1, 2, 5, 7, 89], [1, 2, 5, 7, 46]] Tryz.f40 = some F } := by
  refine ⟨?F, ?h⟩
  case h =>
    conv => lhs; cbv
theorem c40 : Cert 40 T40.1 := cert_of T40.2 Tryz.func40
-- suffrage/suffrageref08.place
noncomputable def T41 : { F : AFunc // CT.func [[4], [], [6, 7, 8], [10, 11, 17], [9, 12, 13, 14, 15, 16], [0, 1, 5, 17, 18], [0, 1, 5, 9]] Tryz.f41 = some F } := by
  refine ⟨?F, ?h⟩
  case h =>
    conv => lhs; cbv
theorem c41 : Cert 41 T41.1 := cert_of T41.2 Tryz.func41
-- slices.Equal[[]int,int]
noncomputable def T42 : { F : AFunc // CT.func [[4], [6, 7, 8, 9], [0, 1, 10], [10, 11], [], [14, 15], [5, 16, 17, 18, 19, 20, 21, 22, 23], [0, 1, 12, 13, 24], [24, 25], [0, 1, 12, 13, 14]] Tryz.f42 = some F } := by
  refine ⟨?F, ?h⟩
  case h =>
    conv => lhs; cbv
theorem c42 : Cert 42 T42.1 := cert_of T42.2 Tryz.func42
-- slices.Compare[[]int,int]
noncomputable def T43 : { F : AFunc // CT.func [[4], [], [], [12, 13, 14, 15], [16, 17, 18], [0, 1, 5, 6, 9, 10, 11, 19], [5, 19, 20, 21, 22, 23], [6, 7, 24, 25, 26], [27], [0, 1, 8, 9, 10, 11, 28, 29], [8, 28, 30], [0, 1, 9, 10, 11, 12, 31, 32, 33, 34], [35], [35]] Tryz.f43 = some F } := by
  refine ⟨?F, ?h⟩
  case h =>
    conv => lhs; cbv
theorem c43 : Cert 43 T43.1 := cert_of T43.2 Tryz.func43
-- suffrage/suffrageref08.Ahead
noncomputable def T44 : { F : AFunc // CT.func [[4], [], [6, 7, 8, 9, 10, 11, 12, 13, 14], [16, 17, 26], [15, 18, 19, 20, 21, 22, 23, 24, 25], [0, 1, 5, 26, 27, 28, 29, 30, 31, 32, 33, 34, 35], [0, 1, 5, 15, 36, 37, 38, 39, 40]] Tryz.f44 = some F } := by
  refine ⟨?F, ?h⟩
  case h =>
    conv => lhs; cbv
theorem c44 : Cert 44 T44.1 := cert_of T44.2 Tryz.func44
-- suffrage/ballot.Keep$1
noncomputable def T45 : { F : AFunc // CT.func [[3], [0, 1, 4, 5, 6, 7, 8, 9, 10, 11, 12, 13]] Tryz.f45 = some F } := by
  refine ⟨?F, ?h⟩
  case h =>
    conv => lhs; cbv
theorem c45 : Cert 45 T45.1 := cert_of T45.2 Tryz.func45
-- slices.Clone[[]int,int]
noncomputable def T46 : { F : AFunc // CT.func [[2], [3], [0, 4], [0, 4, 5, 6, 7]] Tryz.f46 = some F } := by
  refine ⟨?F, ?h⟩
  case h =>
    conv => lhs; cbv
theorem c46 : Cert 46 T46.1 := cert_of T46.2 Tryz.func46
-- slices.DeleteFunc[[]int,int]
noncomputable def T47 : { F : AFunc // CT.func [[4], [8, 9, 10], [11], [0, 1, 5, 12, 13], [12, 14, 15], [16, 17, 18], [7, 20, 21, 29], [19, 22, 23, 24, 25], [26, 27, 28], [7, 29, 30, 31, 32, 33], [34, 35], [1, 6, 19, 36, 37, 38], [0, 5, 39, 40, 41]] Tryz.f47 = some F } := by
  refine ⟨?F, ?h⟩
  case h =>
    conv => lhs; cbv
theorem c47 : Cert 47 T47.1 := cert_of T47.2 Tryz.func47
-- suffrage/ballot.Keep$2
noncomputable def T48 : { F : AFunc // CT.func [[3], [0, 1, 4, 5, 6, 7]] Tryz.f48 = some F } := by
  refine ⟨?F, ?h⟩
  case h =>
    conv => lhs; cbv
theorem c48 : Cert 48 T48.1 := cert_of T48.2 Tryz.func48
-- suffrage/ballot.turned
noncomputable def T49 : { F : AFunc // CT.func [[2], [5, 6, 7], [0, 8], [0, 8, 9, 10, 11], [12], [], [15, 16], [4, 17, 18, 19, 20, 21], [3, 13, 14, 22], [22, 23], [3, 13, 14, 15]] Tryz.f49 = some F } := by
  refine ⟨?F, ?h⟩
  case h =>
    conv => lhs; cbv
theorem c49 : Cert 49 T49.1 := cert_of T49.2 Tryz.func49
-- slices.Sort[[]int,int]
noncomputable def T50 : { F : AFunc // CT.func [[3, 4], [0, 2, 5, 6, 7, 8, 9, 10]] Tryz.f50 = some F } := by
  refine ⟨?F, ?h⟩
  case h =>
    conv => lhs; cbv
theorem c50 : Cert 50 T50.1 := cert_of T50.2 Tryz.func50
end Go.Proofs.YtnhfbabenifbkaaGreatDoor
