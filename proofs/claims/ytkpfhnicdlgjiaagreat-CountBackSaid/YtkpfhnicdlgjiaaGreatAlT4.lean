/- The functions in the abstract language, worked out by Lean. -/
import Derived.Test.YtkpfhnicdlgjiaaGreatAlPc
set_option linter.unusedVariables false
set_option maxHeartbeats 1000000
set_option maxRecDepth 100000
namespace Go.Proofs.YtkpfhnicdlgjiaaGreat
-- suffrage/profile.Many$1
noncomputable def T199 : { F : AFunc // CT.func [[0, 1, 2], []] Tryz.f199 = some F } := by
  refine ⟨?F, ?h⟩
  case h =>
    conv => lhs; cbv
theorem c199 : Cert 199 T199.1 := cert_of T199.2 Tryz.func199
-- suffrage/phragmen.approvals
noncomputable def T200 : { F : AFunc // CT.func [[0, 2], [1, 3, 4, 5, 6, 7, 8, 9, 10]] Tryz.f200 = some F } := by
  refine ⟨?F, ?h⟩
  case h =>
    conv => lhs; cbv
theorem c200 : Cert 200 T200.1 := cert_of T200.2 Tryz.func200
-- suffrage/phragmen.supports
noncomputable def T201 : { F : AFunc // CT.func [[0, 4], [1, 2, 5, 6, 7, 8]] Tryz.f201 = some F } := by
  refine ⟨?F, ?h⟩
  case h =>
    conv => lhs; cbv
theorem c201 : Cert 201 T201.1 := cert_of T201.2 Tryz.func201
-- suffrage/ratio.Mul
noncomputable def T202 : { F : AFunc // CT.func [[0, 1, 5], [2, 3, 7, 8, 9], [6, 10, 11, 12, 13, 14, 15]] Tryz.f202 = some F } := by
  refine ⟨?F, ?h⟩
  case h =>
    conv => lhs; cbv
theorem c202 : Cert 202 T202.1 := cert_of T202.2 Tryz.func202
-- suffrage/ratio.Add
noncomputable def T203 : { F : AFunc // CT.func [[0, 1, 5], [2, 3, 7, 8, 9], [6, 10, 11, 12, 13, 14, 15]] Tryz.f203 = some F } := by
  refine ⟨?F, ?h⟩
  case h =>
    conv => lhs; cbv
theorem c203 : Cert 203 T203.1 := cert_of T203.2 Tryz.func203
-- suffrage/ratio.Div
noncomputable def T204 : { F : AFunc // CT.func [[0, 1, 5], [2, 3, 7, 8, 9], [6, 10, 11, 12, 13, 14, 15]] Tryz.f204 = some F } := by
  refine ⟨?F, ?h⟩
  case h =>
    conv => lhs; cbv
theorem c204 : Cert 204 T204.1 := cert_of T204.2 Tryz.func204
-- suffrage/phragmen.cheapest$1
noncomputable def T205 : { F : AFunc // CT.func [[5], [0, 1, 2, 7, 8, 9, 10, 11, 12, 13, 14, 15, 16, 17], [6, 18]] Tryz.f205 = some F } := by
  refine ⟨?F, ?h⟩
  case h =>
    conv => lhs; cbv
theorem c205 : Cert 205 T205.1 := cert_of T205.2 Tryz.func205
-- suffrage/ratio.Cmp
noncomputable def T206 : { F : AFunc // CT.func [[0, 1, 4, 5], [14, 15, 16, 17, 18, 19, 20], [2, 3, 21], [2, 3, 21, 22, 23, 24, 25, 26, 27, 28], [29, 30, 31, 32, 33, 34], [6, 7, 8, 35, 36, 37, 38, 39, 40], [6, 8, 35, 41, 42, 43, 44, 45, 46], [47], [7, 9, 10, 11, 48, 49], [9, 10, 11, 13, 48, 50, 51, 52, 53, 54, 55], [7, 12, 56, 57, 58]] Tryz.f206 = some F } := by
  refine ⟨?F, ?h⟩
  case h =>
    conv => lhs; cbv
theorem c206 : Cert 206 T206.1 := cert_of T206.2 Tryz.func206
-- suffrage/lists.votes
noncomputable def T207 : { F : AFunc // CT.func [[0, 2], [6, 7, 8], [1, 9], [], [13, 14, 15], [16, 17, 18], [5, 19, 20, 21, 22, 23, 24, 25, 26, 27, 28, 29, 30], [5, 19, 31, 32, 33, 34], [35], [10, 11, 12, 13, 36, 37]] Tryz.f207 = some F } := by
  refine ⟨?F, ?h⟩
  case h =>
    conv => lhs; cbv
theorem c207 : Cert 207 T207.1 := cert_of T207.2 Tryz.func207
-- suffrage/lists.best[suffrage/lists.quotient]
noncomputable def T208 : { F : AFunc // CT.func [[], [0], [], [13, 14, 15], [], [16, 17], [18, 19, 20, 21, 22, 23, 24, 25, 26, 27, 28], [18, 29], [30], [9, 30, 31], [8, 32, 33, 34, 35, 36], [8, 32, 37], [1, 2, 10, 11, 12, 13, 38]] Tryz.f208 = some F } := by
  refine ⟨?F, ?h⟩
  case h =>
    conv => lhs; cbv
theorem c208 : Cert 208 T208.1 := cert_of T208.2 Tryz.func208
-- (suffrage/lists.method).allocate$1
noncomputable def T209 : { F : AFunc // CT.func [[], [0, 1, 2, 3, 6, 7, 8, 9, 10, 11, 12, 13, 14, 15, 16, 17]] Tryz.f209 = some F } := FN _ Tryz.f209 18 4 [.cell 5 2 false] ⟨_, by conv => lhs; cbv⟩
theorem c209 : Cert 209 T209.1 := cert_of T209.2 Tryz.func209
-- (suffrage/lists.method).allocate$2
noncomputable def T210 : { F : AFunc // CT.func [[0, 1, 4], [2, 3, 5, 6, 7, 8, 9, 10, 11, 12, 13, 14, 15]] Tryz.f210 = some F } := FN _ Tryz.f210 16 2 [.t 4] ⟨_, by conv => lhs; cbv⟩
theorem c210 : Cert 210 T210.1 := cert_of T210.2 Tryz.func210
-- slices.Repeat[[]int,int]
noncomputable def T211 : { F : AFunc // CT.func [[4], [9], [10, 11], [1, 10, 12, 13, 14, 15, 16, 17, 18, 19, 20], [5, 21, 22, 23, 24, 25], [26, 27], [6, 26, 28, 29, 30], [0, 31, 32, 33], [34, 35, 36], [37, 38, 39, 40, 41, 42, 43, 44, 45, 46], [7, 8, 37, 47]] Tryz.f211 = some F } := by
  refine ⟨?F, ?h⟩
  case h =>
    conv => lhs; cbv
theorem c211 : Cert 211 T211.1 := cert_of T211.2 Tryz.func211
-- suffrage/lists.best[int]
noncomputable def T212 : { F : AFunc // CT.func [[], [0], [], [13, 14, 15], [], [16, 17], [18, 19, 20, 21, 22, 23, 24, 25, 26, 27, 28], [18, 29], [30], [9, 30, 31], [8, 32, 33, 34, 35, 36], [8, 32, 37], [1, 2, 10, 11, 12, 13, 38]] Tryz.f212 = some F } := by
  refine ⟨?F, ?h⟩
  case h =>
    conv => lhs; cbv
theorem c212 : Cert 212 T212.1 := cert_of T212.2 Tryz.func212
-- suffrage/lists.remainders$1
noncomputable def T213 : { F : AFunc // CT.func [[3], [0, 1, 4, 5, 6, 7]] Tryz.f213 = some F } := by
  refine ⟨?F, ?h⟩
  case h =>
    conv => lhs; cbv
theorem c213 : Cert 213 T213.1 := cert_of T213.2 Tryz.func213
-- suffrage/lists.remainders$2
noncomputable def T214 : { F : AFunc // CT.func [[3], [0, 1, 4, 5, 6]] Tryz.f214 = some F } := by
  refine ⟨?F, ?h⟩
  case h =>
    conv => lhs; cbv
theorem c214 : Cert 214 T214.1 := cert_of T214.2 Tryz.func214
-- slices.order2Ordered[int]
noncomputable def T215 : { F : AFunc // CT.func [[8, 9], [0, 10, 11, 12, 13, 14, 15, 16, 17], [3, 18, 19, 20, 21, 22, 23], [1, 2, 24, 25], [1, 2, 3, 18, 26, 27]] Tryz.f215 = some F } := by
  refine ⟨?F, ?h⟩
  case h =>
    conv => lhs; cbv
theorem c215 : Cert 215 T215.1 := cert_of T215.2 Tryz.func215
-- (*suffrage/choose.Count).Seats
noncomputable def T216 : { F : AFunc // CT.func [[1], [9, 10, 11], [2], [], [14, 15, 16, 17, 18, 19], [20, 21, 22, 23], [8, 24, 25, 26], [27], [0, 4, 7, 12, 13, 14, 28]] Tryz.f216 = some F } := by
  refine ⟨?F, ?h⟩
  case h =>
    conv => lhs; cbv
theorem c216 : Cert 216 T216.1 := cert_of T216.2 Tryz.func216
-- suffrage/nat.Gcd
noncomputable def T217 : { F : AFunc // CT.func [[4, 5], [9, 10, 11], [12], [0, 1, 6, 13, 14], [6, 13, 15, 16], [17, 18], [0, 7, 19, 20, 21, 22, 23, 24, 25], [8, 26, 27], [0, 1, 19, 28, 29]] Tryz.f217 = some F } := by
  refine ⟨?F, ?h⟩
  case h =>
    conv => lhs; cbv
theorem c217 : Cert 217 T217.1 := cert_of T217.2 Tryz.func217
-- suffrage/nat.Div
noncomputable def T218 : { F : AFunc // CT.func [[4, 5, 6], [7, 8, 9], [10], [0, 1, 11, 12], [6, 11, 13, 14], [0, 1, 15], [0, 1, 15, 16, 17, 18, 19, 20, 21], [22, 23]] Tryz.f218 = some F } := by
  refine ⟨?F, ?h⟩
  case h =>
    conv => lhs; cbv
theorem c218 : Cert 218 T218.1 := cert_of T218.2 Tryz.func218
-- suffrage/nat.trim
noncomputable def T219 : { F : AFunc // CT.func [[2], [4, 5], [6, 7, 8, 9, 10, 11, 12, 13, 14], [15, 16, 17], [0, 3, 15, 18, 19, 20, 21]] Tryz.f219 = some F } := by
  refine ⟨?F, ?h⟩
  case h =>
    conv => lhs; cbv
theorem c219 : Cert 219 T219.1 := cert_of T219.2 Tryz.func219
-- slices.Index[[]int,int]
noncomputable def T220 : { F : AFunc // CT.func [[4], [6], [], [9, 10], [11, 12, 13, 14, 15], [0, 1, 5, 7, 8, 16, 17], [5, 16, 18], [0, 1, 7, 8, 9]] Tryz.f220 = some F } := by
  refine ⟨?F, ?h⟩
  case h =>
    conv => lhs; cbv
theorem c220 : Cert 220 T220.1 := cert_of T220.2 Tryz.func220
-- slices.MinFunc[[]int,int]
noncomputable def T221 : { F : AFunc // CT.func [[4], [7, 8], [9, 10], [9, 11, 12, 13], [], [14, 15, 16], [18, 19, 27], [17, 20, 21, 22, 23, 24, 25, 26], [27, 28, 29, 30, 31], [0, 1, 5, 6, 17, 32]] Tryz.f221 = some F } := by
  refine ⟨?F, ?h⟩
  case h =>
    conv => lhs; cbv
theorem c221 : Cert 221 T221.1 := cert_of T221.2 Tryz.func221
-- (*suffrage/choose.Count).first$1
noncomputable def T222 : { F : AFunc // CT.func [[5], [0, 1, 2, 6, 7, 8, 9, 10, 11, 12, 13, 14, 15, 16, 17, 18]] Tryz.f222 = some F } := by
  refine ⟨?F, ?h⟩
  case h =>
    conv => lhs; cbv
theorem c222 : Cert 222 T222.1 := cert_of T222.2 Tryz.func222
-- suffrage/ranked.check
noncomputable def T223 : { F : AFunc // CT.func [[0, 6], [2, 8, 9, 10, 11, 12, 13, 14, 15, 16, 17, 18, 19], [1, 3, 7], [1, 3, 7, 21, 22, 23, 24], [20], [20]] Tryz.f223 = some F } := by
  refine ⟨?F, ?h⟩
  case h =>
    conv => lhs; cbv
theorem c223 : Cert 223 T223.1 := cert_of T223.2 Tryz.func223
-- slices.SortStableFunc[[]suffrage/api.Link,suffrage/api.Link]
noncomputable def T224 : { F : AFunc // CT.func [[0, 1, 4, 5, 6, 7, 8]] Tryz.f224 = some F } := by
  refine ⟨?F, ?h⟩
  case h =>
    conv => lhs; cbv
theorem c224 : Cert 224 T224.1 := cert_of T224.2 Tryz.func224
-- suffrage/ranked.Order$1
noncomputable def T225 : { F : AFunc // CT.func [[0, 1, 4], [2, 3, 5, 6, 7, 8, 9, 10, 11, 12, 13, 14, 15, 16]] Tryz.f225 = some F } := by
  refine ⟨?F, ?h⟩
  case h =>
    conv => lhs; cbv
theorem c225 : Cert 225 T225.1 := cert_of T225.2 Tryz.func225
-- cmp.Or[int]
noncomputable def T226 : { F : AFunc // CT.func [[2], [], [0], [], [9, 10, 11], [12, 13], [3, 5, 6, 7, 8, 14, 15], [5, 14, 16], [3, 6, 7, 8, 9, 17]] Tryz.f226 = some F } := by
  refine ⟨?F, ?h⟩
  case h =>
    conv => lhs; cbv
theorem c226 : Cert 226 T226.1 := cert_of T226.2 Tryz.func226
-- suffrage/ranked.Leads$1
noncomputable def T227 : { F : AFunc // CT.func [[6], [1], [], [12, 13, 14, 15], [16, 17, 18, 19, 20, 21, 22, 23, 24], [7, 25, 26, 27, 28], [8, 29, 30, 31, 32, 33, 34, 35, 36, 37], [0, 2, 3, 4, 9, 10, 11, 38], [7, 8, 25, 38, 39], [0, 2, 3, 4, 9, 10, 11, 12]] Tryz.f227 = some F } := by
  refine ⟨?F, ?h⟩
  case h =>
    conv => lhs; cbv
theorem c227 : Cert 227 T227.1 := cert_of T227.2 Tryz.func227
-- slices.Reverse[[]int,int]
noncomputable def T228 : { F : AFunc // CT.func [[4, 5, 6], [7, 8], [10, 11, 12, 13], [9, 14, 15, 16, 17, 18, 19, 20, 21, 22, 23, 24, 25, 26, 27]] Tryz.f228 = some F } := by
  refine ⟨?F, ?h⟩
  case h =>
    conv => lhs; cbv
theorem c228 : Cert 228 T228.1 := cert_of T228.2 Tryz.func228
-- suffrage/choose.Least$1
noncomputable def T229 : { F : AFunc // CT.func [[3], [0, 1, 4, 5, 6, 7]] Tryz.f229 = some F } := by
  refine ⟨?F, ?h⟩
  case h =>
    conv => lhs; cbv
theorem c229 : Cert 229 T229.1 := cert_of T229.2 Tryz.func229
-- suffrage/runoff.Firsts$1
noncomputable def T230 : { F : AFunc // CT.func [[3], [0, 1, 4, 5, 6, 7, 8, 9, 10, 11, 12, 13]] Tryz.f230 = some F } := by
  refine ⟨?F, ?h⟩
  case h =>
    conv => lhs; cbv
theorem c230 : Cert 230 T230.1 := cert_of T230.2 Tryz.func230
-- suffrage/quota.may
noncomputable def T231 : { F : AFunc // CT.func [[4], [0, 1, 5, 6, 7, 8, 9, 10]] Tryz.f231 = some F } := by
  refine ⟨?F, ?h⟩
  case h =>
    conv => lhs; cbv
theorem c231 : Cert 231 T231.1 := cert_of T231.2 Tryz.func231
-- (*suffrage/gregory.count).next
noncomputable def T232 : { F : AFunc // CT.func [[0, 1, 4, 5], [2, 7, 8, 9, 10], [11], [3, 6, 12], [3, 6, 12, 13, 14, 15, 16, 17]] Tryz.f232 = some F } := by
  refine ⟨?F, ?h⟩
  case h =>
    conv => lhs; cbv
theorem c232 : Cert 232 T232.1 := cert_of T232.2 Tryz.func232
-- suffrage/gregory.Pass
noncomputable def T233 : { F : AFunc // CT.func [[6, 7], [10, 11, 12, 13, 14, 15, 16, 17, 18, 19, 20, 21, 22, 23], [0, 1, 2, 24], [0, 1, 2, 24, 25, 26, 27, 28, 29, 30, 31, 32, 33], [9, 34], [8, 35], [8, 35, 36]] Tryz.f233 = some F } := by
  refine ⟨?F, ?h⟩
  case h =>
    conv => lhs; cbv
theorem c233 : Cert 233 T233.1 := cert_of T233.2 Tryz.func233
-- (*suffrage/meek.count).leave$1
noncomputable def T234 : { F : AFunc // CT.func [[3], [0, 1, 4, 5, 6]] Tryz.f234 = some F } := by
  refine ⟨?F, ?h⟩
  case h =>
    conv => lhs; cbv
theorem c234 : Cert 234 T234.1 := cert_of T234.2 Tryz.func234
-- suffrage/quota.Share
noncomputable def T235 : { F : AFunc // CT.func [[6, 7], [12, 13, 14, 15, 16, 17], [0, 1, 2, 11], [11, 19, 20], [0, 1, 2, 18], [0, 1, 2, 9, 18, 21, 22, 23, 24, 25, 26, 27, 28], [10, 29], [8, 30], [8, 30, 31]] Tryz.f235 = some F } := by
  refine ⟨?F, ?h⟩
  case h =>
    conv => lhs; cbv
theorem c235 : Cert 235 T235.1 := cert_of T235.2 Tryz.func235
-- suffrage/quota.Up
noncomputable def T236 : { F : AFunc // CT.func [[4, 5], [9, 10, 11, 12], [0, 1, 13], [0, 1, 13, 14, 15, 16, 17, 18, 19, 20], [7, 21], [22, 23, 24], [8, 22, 25, 26, 27, 28, 29], [6, 30], [6, 30, 31]] Tryz.f236 = some F } := by
  refine ⟨?F, ?h⟩
  case h =>
    conv => lhs; cbv
theorem c236 : Cert 236 T236.1 := cert_of T236.2 Tryz.func236
-- suffrage/quota.all
noncomputable def T237 : { F : AFunc // CT.func [[2], [0], [], [8, 9, 10], [4, 11, 12], [5, 6, 7, 13], [13, 14], [5, 6, 7, 8]] Tryz.f237 = some F } := by
  refine ⟨?F, ?h⟩
  case h =>
    conv => lhs; cbv
theorem c237 : Cert 237 T237.1 := cert_of T237.2 Tryz.func237
-- (suffrage/ratio.pair).does
noncomputable def T238 : { F : AFunc // CT.func [[0, 5], [2, 6, 7, 8, 9, 10, 11, 12, 13, 14], [1, 15, 16], [1, 15, 17, 18, 19, 20]] Tryz.f238 = some F } := by
  refine ⟨?F, ?h⟩
  case h =>
    conv => lhs; cbv
theorem c238 : Cert 238 T238.1 := cert_of T238.2 Tryz.func238
-- (suffrage/ratio.pair).product
noncomputable def T239 : { F : AFunc // CT.func [[0, 3], [6, 7, 8, 9, 10, 11, 12, 13, 14, 15], [16], [1, 4, 17, 18, 19], [17, 20, 21, 22, 23, 24, 25, 26, 27, 28, 29], [30], [1, 4, 5, 31, 32, 33], [1, 4, 5, 31, 34, 35, 36, 37, 38, 39, 40, 41, 42, 43]] Tryz.f239 = some F } := by
  refine ⟨?F, ?h⟩
  case h =>
    conv => lhs; cbv
theorem c239 : Cert 239 T239.1 := cert_of T239.2 Tryz.func239
-- (suffrage/ratio.pair).sum
noncomputable def T240 : { F : AFunc // CT.func [[0, 3], [11, 12, 13, 14, 15, 16], [17], [1, 4, 5, 18, 19, 20], [18, 21, 22, 23, 24, 25, 26, 27, 28, 29, 30], [31], [1, 4, 5, 6, 32, 33, 34], [3, 8, 32, 35, 36, 37, 38, 39, 40], [10, 41, 42, 43, 44], [46, 47, 48, 49, 50, 51, 52], [7, 45, 54, 55], [1, 4, 5, 7, 45, 56, 57, 58, 59, 60, 61], [1, 53, 62, 63, 64, 65, 66], [1, 4, 5, 53, 67, 68, 69, 70, 71, 72], [73], [6, 9, 10, 74, 75, 76], [6, 9, 10, 74, 77, 78, 79, 80]] Tryz.f240 = some F } := by
  refine ⟨?F, ?h⟩
  case h =>
    conv => lhs; cbv
theorem c240 : Cert 240 T240.1 := cert_of T240.2 Tryz.func240
-- (suffrage/ratio.pair).quotient
noncomputable def T241 : { F : AFunc // CT.func [[0, 3], [4, 5, 6, 7], [1, 8, 9], [1, 8, 10, 11, 12, 13, 14, 15, 16, 17, 18, 19, 20, 21, 22, 23, 24, 25]] Tryz.f241 = some F } := by
  refine ⟨?F, ?h⟩
  case h =>
    conv => lhs; cbv
theorem c241 : Cert 241 T241.1 := cert_of T241.2 Tryz.func241
-- suffrage/ratio.Check
noncomputable def T242 : { F : AFunc // CT.func [[0, 2], [5, 6, 7, 8, 9, 10, 11, 12, 13, 14, 15, 16, 17, 18, 19, 20, 21, 22, 23, 24, 25, 26, 27, 28, 29], [1, 30], [1, 4, 30, 31, 32, 33, 34, 35, 36, 37, 38], [3, 39, 40, 41], [42], [42]] Tryz.f242 = some F } := by
  refine ⟨?F, ?h⟩
  case h =>
    conv => lhs; cbv
theorem c242 : Cert 242 T242.1 := cert_of T242.2 Tryz.func242
-- suffrage/ratio.side
noncomputable def T243 : { F : AFunc // CT.func [[0, 2], [4, 5, 6, 7], [1, 3], [1, 3, 9, 10], [8], [8]] Tryz.f243 = some F } := by
  refine ⟨?F, ?h⟩
  case h =>
    conv => lhs; cbv
theorem c243 : Cert 243 T243.1 := cert_of T243.2 Tryz.func243
-- (suffrage/ratio.pair).crossed
noncomputable def T244 : { F : AFunc // CT.func [[0, 2, 3, 4], [5, 6, 7, 8, 9, 10, 11, 12, 13, 14], [15], [1, 16, 17], [1, 16, 18, 19, 20, 21, 22, 23, 24, 25, 26, 27], [28, 29, 30]] Tryz.f244 = some F } := by
  refine ⟨?F, ?h⟩
  case h =>
    conv => lhs; cbv
theorem c244 : Cert 244 T244.1 := cert_of T244.2 Tryz.func244
-- suffrage/nat.Cmp
noncomputable def T245 : { F : AFunc // CT.func [[4, 5], [7, 8, 9], [10], [0, 1, 6, 11, 12], [0, 1, 6, 11, 13, 14, 15]] Tryz.f245 = some F } := by
  refine ⟨?F, ?h⟩
  case h =>
    conv => lhs; cbv
theorem c245 : Cert 245 T245.1 := cert_of T245.2 Tryz.func245
-- math/bits.Mul
noncomputable def T246 : { F : AFunc // CT.func [[4, 5], [0, 1, 10, 11, 12, 13, 14, 15, 16, 17], [6, 7, 18, 19, 20, 21], [0, 1, 22, 23, 24, 25, 26, 27], [8, 9, 28, 29]] Tryz.f246 = some F } := by
  refine ⟨?F, ?h⟩
  case h =>
    conv => lhs; cbv
theorem c246 : Cert 246 T246.1 := cert_of T246.2 Tryz.func246
-- (*suffrage/choose.Count).Seats$1
noncomputable def T247 : { F : AFunc // CT.func [[3], [0, 1, 4, 5, 6, 7]] Tryz.f247 = some F } := by
  refine ⟨?F, ?h⟩
  case h =>
    conv => lhs; cbv
theorem c247 : Cert 247 T247.1 := cert_of T247.2 Tryz.func247
end Go.Proofs.YtkpfhnicdlgjiaaGreat
