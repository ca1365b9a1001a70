/- The functions in the abstract language, worked out by Lean. -/
import Derived.Test.YtmkaekblmbjhpaaGreatAlX
set_option linter.unusedVariables false
set_option maxHeartbeats 1000000
set_option maxRecDepth 100000
namespace Go.Proofs.YtmkaekblmbjhpaaGreat
-- suffrage/gregory.told
noncomputable def T212 : { F : AFunc // CT.func [[], [0], [], [10, 11, 12], [4, 6, 13, 14, 15, 16, 17], [5, 18, 19, 20, 21], [22], [7, 8, 9, 10, 23]] Tryz.f212 = some F } := by
  refine ⟨?F, ?h⟩
  case h =>
    conv => lhs; cbv
theorem c212 : Cert 212 T212.1 := cert_of T212.2 Tryz.func212
-- (*suffrage/gregory.count).elect
noncomputable def T213 : { F : AFunc // CT.func [[4, 5, 6, 7, 8, 9, 10, 11], [0, 1, 12, 13, 14, 15, 16, 17, 18, 19, 20, 21, 22, 23, 24, 25, 26, 27, 28, 29]] Tryz.f213 = some F } := by
  refine ⟨?F, ?h⟩
  case h =>
    conv => lhs; cbv
theorem c213 : Cert 213 T213.1 := cert_of T213.2 Tryz.func213
-- (*suffrage/gregory.count).pass
noncomputable def T214 : { F : AFunc // CT.func [[10, 11, 12], [], [16, 17, 18, 19], [20, 21, 22, 23, 24, 25], [8, 9, 26, 27, 28, 29, 30], [6, 7, 31, 32, 33, 34, 35, 36, 37, 38, 39, 40, 41, 42, 43, 44, 45, 46, 47, 48, 49], [6, 7, 31, 50]] Tryz.f214 = some F } := by
  refine ⟨?F, ?h⟩
  case h =>
    conv => lhs; cbv
theorem c214 : Cert 214 T214.1 := cert_of T214.2 Tryz.func214
-- (*suffrage/meek.count).elect
noncomputable def T215 : { F : AFunc // CT.func [[1, 5, 6, 7, 8, 9, 10], [11, 12, 13, 14, 15, 16, 17, 18, 19, 20, 21, 22, 23, 24, 25, 26, 27, 28], [29, 30, 31, 32, 33, 34, 35, 36, 37, 38, 39, 40], [0, 4, 41, 42, 43]] Tryz.f215 = some F } := by
  refine ⟨?F, ?h⟩
  case h =>
    conv => lhs; cbv
theorem c215 : Cert 215 T215.1 := cert_of T215.2 Tryz.func215
-- (*suffrage/meek.count).has
noncomputable def T216 : { F : AFunc // CT.func [[4], [0, 1, 5, 6, 7, 8, 9, 10, 11]] Tryz.f216 = some F } := by
  refine ⟨?F, ?h⟩
  case h =>
    conv => lhs; cbv
theorem c216 : Cert 216 T216.1 := cert_of T216.2 Tryz.func216
-- (*suffrage/meek.count).drops$1
noncomputable def T217 : { F : AFunc // CT.func [[3], [0, 1, 4, 5, 6, 7, 8, 9, 10, 11, 12, 13, 14, 15, 16]] Tryz.f217 = some F } := by
  refine ⟨?F, ?h⟩
  case h =>
    conv => lhs; cbv
theorem c217 : Cert 217 T217.1 := cert_of T217.2 Tryz.func217
-- (*suffrage/meek.count).leave
noncomputable def T218 : { F : AFunc // CT.func [[1], [0, 3, 4, 5, 6, 7, 8, 9, 10, 11, 12]] Tryz.f218 = some F } := by
  refine ⟨?F, ?h⟩
  case h =>
    conv => lhs; cbv
theorem c218 : Cert 218 T218.1 := cert_of T218.2 Tryz.func218
-- suffrage/meek.Keep
noncomputable def T219 : { F : AFunc // CT.func [[6, 7], [10, 11, 12, 13, 14, 15, 16, 17, 18, 19, 20, 21, 22, 23], [0, 1, 2, 24], [1, 2, 24, 25, 26, 27, 28, 29, 30, 31, 32, 33], [9, 34], [0, 8, 35], [0, 8, 35, 36, 37, 38]] Tryz.f219 = some F } := by
  refine ⟨?F, ?h⟩
  case h =>
    conv => lhs; cbv
theorem c219 : Cert 219 T219.1 := cert_of T219.2 Tryz.func219
-- suffrage/meek.parts
noncomputable def T220 : { F : AFunc // CT.func [[6], [], [0], [], [14, 15, 16], [10, 17, 18, 19, 20, 21, 22, 23, 24, 25], [8, 26, 27, 28, 29], [9, 30, 31, 32], [33], [1, 2, 11, 12, 13, 14, 34]] Tryz.f220 = some F } := by
  refine ⟨?F, ?h⟩
  case h =>
    conv => lhs; cbv
theorem c220 : Cert 220 T220.1 := cert_of T220.2 Tryz.func220
-- (*suffrage/meek.count).turn$1
noncomputable def T221 : { F : AFunc // CT.func [[0, 1, 2, 3, 6, 7, 8, 9, 10, 11, 12, 13, 14, 15, 16, 17, 18]] Tryz.f221 = some F } := by
  refine ⟨?F, ?h⟩
  case h =>
    conv => lhs; cbv
theorem c221 : Cert 221 T221.1 := cert_of T221.2 Tryz.func221
-- suffrage/meek.Quota
noncomputable def T222 : { F : AFunc // CT.func [[6, 7], [8, 9, 10, 11, 12, 13, 14, 15, 16, 17, 18, 19, 20, 21, 22, 23, 24, 25, 26, 27, 28, 29, 30], [0, 1, 2, 31], [0, 1, 2, 31, 32, 33, 34, 35, 36, 37, 38, 39]] Tryz.f222 = some F } := by
  refine ⟨?F, ?h⟩
  case h =>
    conv => lhs; cbv
theorem c222 : Cert 222 T222.1 := cert_of T222.2 Tryz.func222
-- suffrage/quota.Ratio
noncomputable def T223 : { F : AFunc // CT.func [[3], [4, 5, 6], [0, 7, 8], [0, 7, 9, 10, 11, 12]] Tryz.f223 = some F } := by
  refine ⟨?F, ?h⟩
  case h =>
    conv => lhs; cbv
theorem c223 : Cert 223 T223.1 := cert_of T223.2 Tryz.func223
-- suffrage/profile.Many$1
noncomputable def T224 : { F : AFunc // CT.func [[0, 1, 2], []] Tryz.f224 = some F } := by
  refine ⟨?F, ?h⟩
  case h =>
    conv => lhs; cbv
theorem c224 : Cert 224 T224.1 := cert_of T224.2 Tryz.func224
-- suffrage/phragmen.approvals
noncomputable def T225 : { F : AFunc // CT.func [[0, 2], [1, 3, 4, 5, 6, 7, 8, 9, 10]] Tryz.f225 = some F } := by
  refine ⟨?F, ?h⟩
  case h =>
    conv => lhs; cbv
theorem c225 : Cert 225 T225.1 := cert_of T225.2 Tryz.func225
-- suffrage/phragmen.supports
noncomputable def T226 : { F : AFunc // CT.func [[0, 4], [1, 2, 5, 6, 7, 8]] Tryz.f226 = some F } := by
  refine ⟨?F, ?h⟩
  case h =>
    conv => lhs; cbv
theorem c226 : Cert 226 T226.1 := cert_of T226.2 Tryz.func226
-- suffrage/ratio.Mul
noncomputable def T227 : { F : AFunc // CT.func [[0, 1, 5], [2, 3, 7, 8, 9], [6, 10, 11, 12, 13, 14, 15]] Tryz.f227 = some F } := by
  refine ⟨?F, ?h⟩
  case h =>
    conv => lhs; cbv
theorem c227 : Cert 227 T227.1 := cert_of T227.2 Tryz.func227
end Go.Proofs.YtmkaekblmbjhpaaGreat
