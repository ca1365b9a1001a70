/- The functions in the abstract language, worked out by Lean. -/
import Derived.Test.YtmkaekblmbjhpaaGreatAlX
set_option linter.unusedVariables false
set_option maxHeartbeats 1000000
set_option maxRecDepth 100000
namespace Go.Proofs.YtmkaekblmbjhpaaGreat
-- slices.Clone[[]suffrage/api.Round,suffrage/api.Round]
noncomputable def T99 : { F : AFunc // CT.func [[2], [3], [0, 4], [0, 4, 5, 6, 7]] Tryz.f99 = some F } := by
  refine ⟨?F, ?h⟩
  case h =>
    conv => lhs; cbv
theorem c99 : Cert 99 T99.1 := cert_of T99.2 Tryz.func99
-- slices.Clone[[]suffrage/api.Tie,suffrage/api.Tie]
noncomputable def T100 : { F : AFunc // CT.func [[2], [3], [0, 4], [0, 4, 5, 6, 7]] Tryz.f100 = some F } := by
  refine ⟨?F, ?h⟩
  case h =>
    conv => lhs; cbv
theorem c100 : Cert 100 T100.1 := cert_of T100.2 Tryz.func100
-- suffrage/count.ratios
noncomputable def T101 : { F : AFunc // CT.func [[2], [0, 5, 6], [7], [], [10, 11], [4, 12, 13, 14, 15, 16, 17, 18, 19], [20], [3, 8, 9, 10, 21]] Tryz.f101 = some F } := by
  refine ⟨?F, ?h⟩
  case h =>
    conv => lhs; cbv
theorem c101 : Cert 101 T101.1 := cert_of T101.2 Tryz.func101
-- suffrage/board.twin
noncomputable def T102 : { F : AFunc // CT.func [[0], [1, 3, 4, 5, 6, 7, 8]] Tryz.f102 = some F } := by
  refine ⟨?F, ?h⟩
  case h =>
    conv => lhs; cbv
theorem c102 : Cert 102 T102.1 := cert_of T102.2 Tryz.func102
-- suffrage/sheet.Check
noncomputable def T103 : { F : AFunc // CT.func [[0, 1, 4], [2, 7, 8, 9, 10, 11], [12], [3, 5, 6, 13, 14], [3, 5, 6, 13, 15, 16, 17, 18, 19, 20, 21, 22, 23], [24], [24]] Tryz.f103 = some F } := by
  refine ⟨?F, ?h⟩
  case h =>
    conv => lhs; cbv
theorem c103 : Cert 103 T103.1 := cert_of T103.2 Tryz.func103
-- suffrage/contest.Most
noncomputable def T104 : { F : AFunc // CT.func [[4, 5], [6, 7, 8, 9, 10, 11, 12, 13, 14, 15, 16], [0, 1, 17], [0, 17, 18, 19], [1, 20], [1, 20, 21]] Tryz.f104 = some F } := by
  refine ⟨?F, ?h⟩
  case h =>
    conv => lhs; cbv
theorem c104 : Cert 104 T104.1 := cert_of T104.2 Tryz.func104
-- suffrage/sheet.wide
noncomputable def T105 : { F : AFunc // CT.func [[4], [0], [7], [1, 5, 6, 8], [1, 5, 6, 10], [9], [9]] Tryz.f105 = some F } := by
  refine ⟨?F, ?h⟩
  case h =>
    conv => lhs; cbv
theorem c105 : Cert 105 T105.1 := cert_of T105.2 Tryz.func105
-- suffrage/sheet.of
noncomputable def T106 : { F : AFunc // CT.func [[2], [0], [5], [3, 4], [3, 4, 7], [6], [6]] Tryz.f106 = some F } := by
  refine ⟨?F, ?h⟩
  case h =>
    conv => lhs; cbv
theorem c106 : Cert 106 T106.1 := cert_of T106.2 Tryz.func106
-- slices.IndexFunc[[]string,string]
noncomputable def T107 : { F : AFunc // CT.func [[4], [6], [], [9, 10], [11, 12, 13, 14, 15], [0, 1, 5, 7, 8, 16, 17], [5, 16, 18], [0, 1, 7, 8, 9]] Tryz.f107 = some F } := by
  refine ⟨?F, ?h⟩
  case h =>
    conv => lhs; cbv
theorem c107 : Cert 107 T107.1 := cert_of T107.2 Tryz.func107
-- slices.IndexFunc[[]byte,byte]
noncomputable def T108 : { F : AFunc // CT.func [[4], [6], [], [9, 10], [11, 12, 13, 14, 15], [0, 1, 5, 7, 8, 16, 17], [5, 16, 18], [0, 1, 7, 8, 9]] Tryz.f108 = some F } := by
  refine ⟨?F, ?h⟩
  case h =>
    conv => lhs; cbv
theorem c108 : Cert 108 T108.1 := cert_of T108.2 Tryz.func108
-- slices.Index[[]string,string]
noncomputable def T109 : { F : AFunc // CT.func [[4], [6], [], [9, 10], [11, 12, 13, 14, 15], [0, 1, 5, 7, 8, 16, 17], [5, 16, 18], [0, 1, 7, 8, 9]] Tryz.f109 = some F } := by
  refine ⟨?F, ?h⟩
  case h =>
    conv => lhs; cbv
theorem c109 : Cert 109 T109.1 := cert_of T109.2 Tryz.func109
-- slices.Clone[[]suffrage/api.Row,suffrage/api.Row]
noncomputable def T110 : { F : AFunc // CT.func [[2], [3], [0, 4], [0, 4, 5, 6, 7]] Tryz.f110 = some F } := by
  refine ⟨?F, ?h⟩
  case h =>
    conv => lhs; cbv
theorem c110 : Cert 110 T110.1 := cert_of T110.2 Tryz.func110
-- suffrage/profile.place
noncomputable def T111 : { F : AFunc // CT.func [[0, 4, 5], [1, 2, 6, 7, 8, 9, 10, 11]] Tryz.f111 = some F } := by
  refine ⟨?F, ?h⟩
  case h =>
    conv => lhs; cbv
theorem c111 : Cert 111 T111.1 := cert_of T111.2 Tryz.func111
-- slices.Insert[[]suffrage/api.Row,suffrage/api.Row]
noncomputable def T112 : { F : AFunc // CT.func [[6], [10, 11, 12], [13, 14], [15], [0, 1, 2, 7, 16, 17], [16, 18, 19], [20, 21], [0, 1, 2, 7, 8, 22, 23, 24, 25], [22, 26, 27, 28, 29, 30], [8, 31, 32, 33, 34, 35, 36, 37, 38, 39, 40], [2, 41, 42, 43, 44, 45], [0, 1, 7, 46, 47, 48, 49, 50, 51, 52, 53, 54], [9, 55], [31, 56, 57, 58, 59, 60], [61, 62, 63, 64, 65, 66, 67], [7, 8, 68, 69, 70, 71, 72, 73, 74, 75, 76, 77], [1, 2, 78, 79, 80, 81, 82], [0, 83], [2, 8, 68, 84, 85, 86, 87, 88], [1, 7, 89, 90, 91, 92, 93], [0, 94]] Tryz.f112 = some F } := by
  refine ⟨?F, ?h⟩
  case h =>
    conv => lhs; cbv
theorem c112 : Cert 112 T112.1 := cert_of T112.2 Tryz.func112
-- cmp.Compare[int]
noncomputable def T113 : { F : AFunc // CT.func [[4], [7, 8], [9, 10], [5], [0, 1, 6, 11], [12], [12], [6, 11], [0, 1, 13], [13, 14, 15], [0, 1, 16], [0, 1, 16, 17, 18], [19], [19]] Tryz.f113 = some F } := by
  refine ⟨?F, ?h⟩
  case h =>
    conv => lhs; cbv
theorem c113 : Cert 113 T113.1 := cert_of T113.2 Tryz.func113
-- suffrage/ballot.within
noncomputable def T114 : { F : AFunc // CT.func [[6], [0, 1, 2, 7, 8, 9, 10, 11, 12, 13, 14]] Tryz.f114 = some F } := by
  refine ⟨?F, ?h⟩
  case h =>
    conv => lhs; cbv
theorem c114 : Cert 114 T114.1 := cert_of T114.2 Tryz.func114
end Go.Proofs.YtmkaekblmbjhpaaGreat
