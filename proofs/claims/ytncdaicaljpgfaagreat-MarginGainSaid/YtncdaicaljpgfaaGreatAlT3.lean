/- The functions in the abstract language, worked out by Lean. -/
import Derived.Test.YtncdaicaljpgfaaGreatAlPc
set_option linter.unusedVariables false
set_option maxHeartbeats 1000000
set_option maxRecDepth 100000
namespace Go.Proofs.YtncdaicaljpgfaaGreat
-- suffrage/phragmen.Count$1
noncomputable def T173 : { F : AFunc // CT.func [[], [1, 2, 15, 16, 17, 18, 19, 20, 21, 22], [23], [], [], [27, 28, 29], [13, 30, 31, 32, 33, 34, 35, 36, 37], [12], [10, 11, 38, 39, 40, 41, 42, 43, 44, 45, 46, 47], [10, 11, 38, 48], [8, 24, 25, 26, 27, 49, 50, 51, 52, 53], [0, 4, 54, 55, 56, 57], [3, 58, 59, 60], [5, 14, 61, 62, 63, 64, 65, 66, 67, 68, 69, 70, 71, 72, 73, 74, 75], [7, 76]] Tryz.f173 = some F } := by
  refine ⟨?F, ?h⟩
  case h =>
    conv => lhs; cbv
theorem c173 : Cert 173 T173.1 := cert_of T173.2 Tryz.func173
-- suffrage/phragmen.Cost
noncomputable def T174 : { F : AFunc // CT.func [[0, 7, 8], [16, 17, 18], [1, 2, 3, 15, 19], [15, 21, 22, 23, 24, 25, 26, 27, 28, 29, 30, 31, 32, 33, 34, 35, 36], [1, 2, 3, 20, 37], [20, 38], [3, 39], [], [43, 44, 45, 46], [47, 48, 49], [11, 50, 51, 52, 53, 54, 55, 56, 57, 58, 59, 60, 61], [62], [1, 2, 9, 10, 12, 13, 14, 40, 41, 42, 63, 64, 65], [13, 63, 66, 67, 68, 69, 70, 71], [72], [1, 2, 9, 10, 12, 14, 40, 41, 42, 73, 74, 75], [12, 14, 73, 76, 77, 78, 79], [11, 12, 50, 80], [1, 2, 40, 41, 42, 43, 81], [9, 10, 82, 83], [9, 10, 82, 84, 85, 86, 87, 88, 89, 90], [91, 92, 93, 94]] Tryz.f174 = some F } := FN _ Tryz.f174 95 3 [.cell 6 3 false, .t 7, .t 8] (PC.seq ⟨_, by conv => lhs; cbv⟩ (PC.seq ⟨_, by conv => lhs; cbv⟩ (PC.seq ⟨_, by conv => lhs; cbv⟩ (PC.seq (PC.seq ⟨_, by conv => lhs; cbv⟩ (PC.block 1 (PC.loop (PC.seq ⟨_, by conv => lhs; cbv⟩ (PC.seq ⟨_, by conv => lhs; cbv⟩ (PC.seq ⟨_, by conv => lhs; cbv⟩ ⟨_, by conv => lhs; cbv⟩)))))) ⟨_, by conv => lhs; cbv⟩))))
theorem c174 : Cert 174 T174.1 := cert_of T174.2 Tryz.func174
-- suffrage/ratio.Twin
noncomputable def T175 : { F : AFunc // CT.func [[0], [1, 3, 4, 5, 6, 7, 8, 9, 10, 11]] Tryz.f175 = some F } := by
  refine ⟨?F, ?h⟩
  case h =>
    conv => lhs; cbv
theorem c175 : Cert 175 T175.1 := cert_of T175.2 Tryz.func175
-- suffrage/phragmen.cheapest
noncomputable def T176 : { F : AFunc // CT.func [[1], [8], [3, 9], [6, 11, 27], [12, 13, 14], [], [15, 16], [17, 18, 19, 20, 21, 22, 23], [17, 24], [25], [7, 25, 26], [6, 27, 28, 29, 30, 31], [5, 10, 12, 32, 33], [0, 34, 35], [0, 34, 36, 37], [38]] Tryz.f176 = some F } := by
  refine ⟨?F, ?h⟩
  case h =>
    conv => lhs; cbv
theorem c176 : Cert 176 T176.1 := cert_of T176.2 Tryz.func176
-- suffrage/phragmen.elect
noncomputable def T177 : { F : AFunc // CT.func [[0], [8, 11, 12, 13, 14, 15, 16, 17, 18], [3, 19], [], [23, 24, 25, 26], [10, 27, 28, 29, 30, 31], [9, 32, 33, 34, 35, 36, 37], [9, 32, 38]] Tryz.f177 = some F } := by
  refine ⟨?F, ?h⟩
  case h =>
    conv => lhs; cbv
theorem c177 : Cert 177 T177.1 := cert_of T177.2 Tryz.func177
-- suffrage/phragmen.Count$1$1
noncomputable def T178 : { F : AFunc // CT.func [[3], [0, 1, 4, 5, 6]] Tryz.f178 = some F } := by
  refine ⟨?F, ?h⟩
  case h =>
    conv => lhs; cbv
theorem c178 : Cert 178 T178.1 := cert_of T178.2 Tryz.func178
-- suffrage/lists.count
noncomputable def T179 : { F : AFunc // CT.func [[0, 9], [14, 15, 16, 17], [18], [1, 2, 3, 4, 10, 19, 20, 21], [2, 10, 19, 22, 23], [4, 24, 25, 26, 27, 28], [1, 3, 29, 30, 31, 32, 33, 34, 35, 36, 37], [12, 13, 38, 39, 40, 41, 42, 43, 44, 45, 46, 47, 48, 49, 50, 51, 52, 53], [11, 54, 55, 56, 57]] Tryz.f179 = some F } := by
  refine ⟨?F, ?h⟩
  case h =>
    conv => lhs; cbv
theorem c179 : Cert 179 T179.1 := cert_of T179.2 Tryz.func179
-- suffrage/lists.DHondt$1
noncomputable def T180 : { F : AFunc // CT.func [[2], [0, 3, 4]] Tryz.f180 = some F } := by
  refine ⟨?F, ?h⟩
  case h =>
    conv => lhs; cbv
theorem c180 : Cert 180 T180.1 := cert_of T180.2 Tryz.func180
-- (suffrage/lists.method).allocate
noncomputable def T181 : { F : AFunc // CT.func [[0, 2], [12, 13, 14], [3], [], [17, 18, 19, 20, 21, 22], [10, 23, 24, 25], [26, 27, 28, 29, 30, 31], [11, 32, 33, 34, 35], [36], [1, 4, 6, 9, 15, 16, 17, 37]] Tryz.f181 = some F } := FN _ Tryz.f181 38 4 [.t 8] ⟨_, by conv => lhs; cbv⟩
theorem c181 : Cert 181 T181.1 := cert_of T181.2 Tryz.func181
-- suffrage/lists.Sainte$1
noncomputable def T182 : { F : AFunc // CT.func [[2], [0, 3, 4, 5]] Tryz.f182 = some F } := by
  refine ⟨?F, ?h⟩
  case h =>
    conv => lhs; cbv
theorem c182 : Cert 182 T182.1 := cert_of T182.2 Tryz.func182
-- suffrage/lists.remainders
noncomputable def T183 : { F : AFunc // CT.func [[], [], [], [], [18, 19, 20], [9, 21, 22, 23], [24], [15, 16, 17, 18, 25, 26, 27], [], [], [31, 32, 33, 34], [35], [36, 37, 38, 39, 40, 41, 42, 43, 44, 45, 46], [11, 12, 47, 48, 49, 50, 51, 52, 53, 54], [11, 12, 36, 55], [7, 28, 29, 30, 31], [56, 57, 58], [59, 60, 61], [62, 63, 64, 65], [62, 66, 67, 68, 69, 70], [71, 72, 73, 74], [14, 75, 76, 77], [0, 1, 2, 10, 13, 59, 78]] Tryz.f183 = some F } := by
  refine ⟨?F, ?h⟩
  case h =>
    conv => lhs; cbv
theorem c183 : Cert 183 T183.1 := cert_of T183.2 Tryz.func183
-- suffrage/ratio.Check
noncomputable def T184 : { F : AFunc // CT.func [[0, 2], [5, 6, 7, 8, 9, 10, 11, 12, 13, 14, 15, 16, 17, 18, 19, 20, 21, 22, 23, 24, 25, 26, 27, 28, 29], [1, 30], [1, 4, 30, 31, 32, 33, 34, 35, 36, 37, 38], [3, 39, 40, 41], [42], [42]] Tryz.f184 = some F } := by
  refine ⟨?F, ?h⟩
  case h =>
    conv => lhs; cbv
theorem c184 : Cert 184 T184.1 := cert_of T184.2 Tryz.func184
-- suffrage/nat.Div
noncomputable def T185 : { F : AFunc // CT.func [[4, 5, 6], [7, 8, 9], [10], [0, 1, 11, 12], [6, 11, 13, 14], [0, 1, 15], [0, 1, 15, 16, 17, 18, 19, 20, 21], [22, 23]] Tryz.f185 = some F } := by
  refine ⟨?F, ?h⟩
  case h =>
    conv => lhs; cbv
theorem c185 : Cert 185 T185.1 := cert_of T185.2 Tryz.func185
-- suffrage/nat.Word
noncomputable def T186 : { F : AFunc // CT.func [[3], [6, 7], [8], [0, 9, 10], [3, 9, 11, 12], [0, 13], [0, 13], [], [17, 18, 19, 20], [4, 5, 21, 22, 23, 24, 25, 26, 27], [28], [14, 15, 16, 17, 29]] Tryz.f186 = some F } := by
  refine ⟨?F, ?h⟩
  case h =>
    conv => lhs; cbv
theorem c186 : Cert 186 T186.1 := cert_of T186.2 Tryz.func186
-- slices.siftDownCmpFunc[suffrage/margin.share]
noncomputable def T187 : { F : AFunc // CT.func [[1, 12], [13, 14, 15], [16, 17], [18, 19, 20, 21, 22, 23, 24, 25, 26, 27, 28, 29, 30, 31, 32, 33, 34, 35, 36, 37, 38, 39], [40, 41, 42], [40, 43, 44, 45, 46, 47, 48, 49, 50, 51, 52, 53, 54, 55, 56, 57], [10, 58, 59, 60, 61, 62, 63, 64, 65, 66, 67, 68, 69, 70, 71, 72, 73, 74, 75, 76, 77, 78, 79, 80], [11, 81]] Tryz.f187 = some F } := by
  refine ⟨?F, ?h⟩
  case h =>
    conv => lhs; cbv
theorem c187 : Cert 187 T187.1 := cert_of T187.2 Tryz.func187
-- slices.nextPowerOfTwo
noncomputable def T188 : { F : AFunc // CT.func [[2], [0, 3, 4, 5, 6]] Tryz.f188 = some F } := by
  refine ⟨?F, ?h⟩
  case h =>
    conv => lhs; cbv
theorem c188 : Cert 188 T188.1 := cert_of T188.2 Tryz.func188
-- (*slices.xorshift).Next
noncomputable def T189 : { F : AFunc // CT.func [[2], [3, 4, 5, 6, 7, 8, 9, 10, 11], [12, 13, 14, 15, 16, 17, 18, 19, 20], [21, 22, 23, 24, 25, 26, 27, 28, 29], [0, 30, 31, 32]] Tryz.f189 = some F } := by
  refine ⟨?F, ?h⟩
  case h =>
    conv => lhs; cbv
theorem c189 : Cert 189 T189.1 := cert_of T189.2 Tryz.func189
-- slices.medianAdjacentCmpFunc[suffrage/margin.share]
noncomputable def T190 : { F : AFunc // CT.func [[8], [0, 1, 2, 3, 9, 10, 11, 12, 13, 14, 15, 16, 17]] Tryz.f190 = some F } := by
  refine ⟨?F, ?h⟩
  case h =>
    conv => lhs; cbv
theorem c190 : Cert 190 T190.1 := cert_of T190.2 Tryz.func190
-- slices.medianCmpFunc[suffrage/margin.share]
noncomputable def T191 : { F : AFunc // CT.func [[12], [13, 14, 15, 16, 17, 18, 19, 20, 21], [3, 22, 23, 24, 25, 26, 27, 28, 29, 30], [0, 1, 4, 5, 31, 32, 33, 34, 35, 36, 37, 38, 39], [2, 40]] Tryz.f191 = some F } := by
  refine ⟨?F, ?h⟩
  case h =>
    conv => lhs; cbv
theorem c191 : Cert 191 T191.1 := cert_of T191.2 Tryz.func191
-- slices.Sorted[int]
noncomputable def T192 : { F : AFunc // CT.func [[2], [0, 4, 5], [6, 7], [3, 8]] Tryz.f192 = some F } := by
  refine ⟨?F, ?h⟩
  case h =>
    conv => lhs; cbv
theorem c192 : Cert 192 T192.1 := cert_of T192.2 Tryz.func192
-- slices.Values[[]int,int]
noncomputable def T193 : { F : AFunc // CT.func [[0, 2], [1, 3]] Tryz.f193 = some F } := by
  refine ⟨?F, ?h⟩
  case h =>
    conv => lhs; cbv
theorem c193 : Cert 193 T193.1 := cert_of T193.2 Tryz.func193
-- (*suffrage/choose.Count).Seats$1
noncomputable def T194 : { F : AFunc // CT.func [[3], [0, 1, 4, 5, 6, 7]] Tryz.f194 = some F } := by
  refine ⟨?F, ?h⟩
  case h =>
    conv => lhs; cbv
theorem c194 : Cert 194 T194.1 := cert_of T194.2 Tryz.func194
-- (*suffrage/choose.Count).Seats$2
noncomputable def T195 : { F : AFunc // CT.func [[3], [0, 1, 4, 5, 6]] Tryz.f195 = some F } := by
  refine ⟨?F, ?h⟩
  case h =>
    conv => lhs; cbv
theorem c195 : Cert 195 T195.1 := cert_of T195.2 Tryz.func195
-- suffrage/nat.Of
noncomputable def T196 : { F : AFunc // CT.func [[2], [0, 3, 4, 5, 6, 7, 8, 9]] Tryz.f196 = some F } := by
  refine ⟨?F, ?h⟩
  case h =>
    conv => lhs; cbv
theorem c196 : Cert 196 T196.1 := cert_of T196.2 Tryz.func196
-- suffrage/ratio.size
noncomputable def T197 : { F : AFunc // CT.func [[2], [3], [0, 4, 5, 6, 7, 8, 9], [0, 4, 10, 11]] Tryz.f197 = some F } := by
  refine ⟨?F, ?h⟩
  case h =>
    conv => lhs; cbv
theorem c197 : Cert 197 T197.1 := cert_of T197.2 Tryz.func197
-- suffrage/ratio.one
noncomputable def T198 : { F : AFunc // CT.func [[0], [1]] Tryz.f198 = some F } := by
  refine ⟨?F, ?h⟩
  case h =>
    conv => lhs; cbv
theorem c198 : Cert 198 T198.1 := cert_of T198.2 Tryz.func198
-- slices.IndexFunc[[]string,string]
noncomputable def T199 : { F : AFunc // CT.func [[4], [6], [], [9, 10], [11, 12, 13, 14, 15], [0, 1, 5, 7, 8, 16, 17], [5, 16, 18], [0, 1, 7, 8, 9]] Tryz.f199 = some F } := by
  refine ⟨?F, ?h⟩
  case h =>
    conv => lhs; cbv
theorem c199 : Cert 199 T199.1 := cert_of T199.2 Tryz.func199
-- slices.IndexFunc[[]byte,byte]
noncomputable def T200 : { F : AFunc // CT.func [[4], [6], [], [9, 10], [11, 12, 13, 14, 15], [0, 1, 5, 7, 8, 16, 17], [5, 16, 18], [0, 1, 7, 8, 9]] Tryz.f200 = some F } := by
  refine ⟨?F, ?h⟩
  case h =>
    conv => lhs; cbv
theorem c200 : Cert 200 T200.1 := cert_of T200.2 Tryz.func200
-- slices.Index[[]string,string]
noncomputable def T201 : { F : AFunc // CT.func [[4], [6], [], [9, 10], [11, 12, 13, 14, 15], [0, 1, 5, 7, 8, 16, 17], [5, 16, 18], [0, 1, 7, 8, 9]] Tryz.f201 = some F } := by
  refine ⟨?F, ?h⟩
  case h =>
    conv => lhs; cbv
theorem c201 : Cert 201 T201.1 := cert_of T201.2 Tryz.func201
-- suffrage/condorcet.count$1
noncomputable def T202 : { F : AFunc // CT.func [[4], [0, 1, 2, 5, 6, 7, 8]] Tryz.f202 = some F } := by
  refine ⟨?F, ?h⟩
  case h =>
    conv => lhs; cbv
theorem c202 : Cert 202 T202.1 := cert_of T202.2 Tryz.func202
-- suffrage/ratio.lowest
noncomputable def T203 : { F : AFunc // CT.func [[], [8, 9, 10, 11, 12, 13, 14], [15, 16, 17, 18, 19, 20, 21], [7, 22, 23, 24, 25, 26, 27, 28], [0, 1, 2, 29, 30, 31, 32, 33, 34, 35, 36, 37]] Tryz.f203 = some F } := by
  refine ⟨?F, ?h⟩
  case h =>
    conv => lhs; cbv
theorem c203 : Cert 203 T203.1 := cert_of T203.2 Tryz.func203
-- suffrage/paths.links
noncomputable def T204 : { F : AFunc // CT.func [[0], [], [], [7, 8], [9, 10], [], [13, 14, 15], [16, 17, 18, 19, 20, 21], [4, 5, 22, 23, 24, 25, 26, 27], [4, 5, 22, 28], [3, 11, 12, 13, 29], [1, 6, 7, 30]] Tryz.f204 = some F } := by
  refine ⟨?F, ?h⟩
  case h =>
    conv => lhs; cbv
theorem c204 : Cert 204 T204.1 := cert_of T204.2 Tryz.func204
-- suffrage/paths.longer
noncomputable def T205 : { F : AFunc // CT.func [[0], [7], [], [], [9, 10], [], [], [12, 13], [], [], [15, 16], [17, 18], [6, 19, 20, 21, 22, 23, 24, 25, 26, 27, 28, 29, 30, 31, 32, 33, 34, 35, 36, 37, 38, 39, 40], [6, 19, 41], [5, 14, 15, 42], [4, 11, 12, 43], [1, 3, 8, 9, 44]] Tryz.f205 = some F } := by
  refine ⟨?F, ?h⟩
  case h =>
    conv => lhs; cbv
theorem c205 : Cert 205 T205.1 := cert_of T205.2 Tryz.func205
-- (*suffrage/choose.Count).tell
noncomputable def T206 : { F : AFunc // CT.func [[6], [8, 9], [1, 10, 11, 12], [13, 14], [0, 7, 15, 16, 17, 18, 19, 20, 21, 22, 23, 24, 25, 26, 27, 28], [0, 1, 2, 10, 29]] Tryz.f206 = some F } := by
  refine ⟨?F, ?h⟩
  case h =>
    conv => lhs; cbv
theorem c206 : Cert 206 T206.1 := cert_of T206.2 Tryz.func206
-- (*suffrage/choose.Count).first
noncomputable def T207 : { F : AFunc // CT.func [[0, 4], [1, 2, 5, 6, 7]] Tryz.f207 = some F } := by
  refine ⟨?F, ?h⟩
  case h =>
    conv => lhs; cbv
theorem c207 : Cert 207 T207.1 := cert_of T207.2 Tryz.func207
-- suffrage/ranked.Order
noncomputable def T208 : { F : AFunc // CT.func [[0, 7], [1, 13, 14, 15, 16], [17], [2, 3, 18, 19], [7, 18], [], [23, 24, 25], [], [], [29, 30, 31], [32, 33, 34, 35, 36, 37, 38, 39, 40, 41, 42], [43], [11, 12, 44, 45, 46, 47, 48, 49, 50, 51, 52, 53, 54, 55, 56], [11, 12, 44, 57], [9, 26, 27, 28, 29, 58], [2, 3, 20, 21, 22, 23, 59, 60], [61]] Tryz.f208 = some F } := by
  refine ⟨?F, ?h⟩
  case h =>
    conv => lhs; cbv
theorem c208 : Cert 208 T208.1 := cert_of T208.2 Tryz.func208
-- suffrage/ranked.Leads
noncomputable def T209 : { F : AFunc // CT.func [[0, 2, 6], [9, 10, 11], [], [3, 5, 7, 12], [1, 8, 13, 14, 15]] Tryz.f209 = some F } := by
  refine ⟨?F, ?h⟩
  case h =>
    conv => lhs; cbv
theorem c209 : Cert 209 T209.1 := cert_of T209.2 Tryz.func209
-- slices.Index[[]suffrage/api.Link,suffrage/api.Link]
noncomputable def T210 : { F : AFunc // CT.func [[1, 4], [6], [], [9, 10], [11, 12, 13, 14, 15], [0, 3, 5, 7, 8, 16, 17], [5, 16, 18], [0, 3, 7, 8, 9]] Tryz.f210 = some F } := by
  refine ⟨?F, ?h⟩
  case h =>
    conv => lhs; cbv
theorem c210 : Cert 210 T210.1 := cert_of T210.2 Tryz.func210
-- suffrage/runoff.firsts
noncomputable def T211 : { F : AFunc // CT.func [[0, 4], [9, 10, 11], [2, 12], [], [16, 17, 18], [19, 20, 21, 22], [23], [7, 8, 24, 25, 26, 27, 28, 29, 30, 31, 32, 33, 34, 35, 36], [7, 8, 24, 37, 38, 39, 40], [41], [1, 13, 14, 15, 16, 42, 43]] Tryz.f211 = some F } := by
  refine ⟨?F, ?h⟩
  case h =>
    conv => lhs; cbv
theorem c211 : Cert 211 T211.1 := cert_of T211.2 Tryz.func211
-- (*suffrage/runoff.count).round$1
noncomputable def T212 : { F : AFunc // CT.func [[3], [0, 1, 4, 5, 6, 7, 8, 9]] Tryz.f212 = some F } := by
  refine ⟨?F, ?h⟩
  case h =>
    conv => lhs; cbv
theorem c212 : Cert 212 T212.1 := cert_of T212.2 Tryz.func212
-- (*suffrage/runoff.count).round$2
noncomputable def T213 : { F : AFunc // CT.func [[3], [0, 1, 4, 5, 6, 7]] Tryz.f213 = some F } := by
  refine ⟨?F, ?h⟩
  case h =>
    conv => lhs; cbv
theorem c213 : Cert 213 T213.1 := cert_of T213.2 Tryz.func213
-- (*suffrage/choose.Count).Last
noncomputable def T214 : { F : AFunc // CT.func [[4], [6, 7, 8, 9, 10], [11, 12, 13, 14, 15], [0, 1, 5, 16, 17, 18, 19, 20, 21]] Tryz.f214 = some F } := by
  refine ⟨?F, ?h⟩
  case h =>
    conv => lhs; cbv
theorem c214 : Cert 214 T214.1 := cert_of T214.2 Tryz.func214
-- suffrage/choose.Least
noncomputable def T215 : { F : AFunc // CT.func [[1, 4], [0, 3, 5, 6, 7]] Tryz.f215 = some F } := by
  refine ⟨?F, ?h⟩
  case h =>
    conv => lhs; cbv
theorem c215 : Cert 215 T215.1 := cert_of T215.2 Tryz.func215
-- (*suffrage/runoff.count).round$3
noncomputable def T216 : { F : AFunc // CT.func [[3], [0, 1, 4, 5, 6, 7]] Tryz.f216 = some F } := by
  refine ⟨?F, ?h⟩
  case h =>
    conv => lhs; cbv
theorem c216 : Cert 216 T216.1 := cert_of T216.2 Tryz.func216
-- (*suffrage/runoff.count).round$4
noncomputable def T217 : { F : AFunc // CT.func [[3], [0, 1, 4, 5, 6]] Tryz.f217 = some F } := by
  refine ⟨?F, ?h⟩
  case h =>
    conv => lhs; cbv
theorem c217 : Cert 217 T217.1 := cert_of T217.2 Tryz.func217
-- suffrage/runoff.Firsts
noncomputable def T218 : { F : AFunc // CT.func [[0, 1, 4, 5, 6], [7, 8, 9, 10, 11, 12, 13], [2, 3, 14], [2, 3, 14, 15, 16, 17, 18, 19, 20], [21, 22]] Tryz.f218 = some F } := by
  refine ⟨?F, ?h⟩
  case h =>
    conv => lhs; cbv
theorem c218 : Cert 218 T218.1 := cert_of T218.2 Tryz.func218
-- suffrage/coombs.rounds$1
noncomputable def T219 : { F : AFunc // CT.func [[3], [0, 1, 4, 5, 6]] Tryz.f219 = some F } := by
  refine ⟨?F, ?h⟩
  case h =>
    conv => lhs; cbv
theorem c219 : Cert 219 T219.1 := cert_of T219.2 Tryz.func219
-- suffrage/quota.Droop
noncomputable def T220 : { F : AFunc // CT.func [[4, 5], [6, 7, 8], [0, 1, 9], [0, 1, 9, 10, 11, 12, 13, 14]] Tryz.f220 = some F } := by
  refine ⟨?F, ?h⟩
  case h =>
    conv => lhs; cbv
theorem c220 : Cert 220 T220.1 := cert_of T220.2 Tryz.func220
-- suffrage/profile.Marked$1
noncomputable def T221 : { F : AFunc // CT.func [[0, 2], [1, 3, 4, 5, 6]] Tryz.f221 = some F } := by
  refine ⟨?F, ?h⟩
  case h =>
    conv => lhs; cbv
theorem c221 : Cert 221 T221.1 := cert_of T221.2 Tryz.func221
-- (*suffrage/gregory.count).had
def R_gregory_count_had_13 : AC := .ops true [⟨some 59, .mov (.t 2), none, []⟩,
  ⟨some 60, .mov (.t 8), none, []⟩,
  ⟨some 61, .mov (.t 9), none, []⟩,
  ⟨some 62, .mov (.t 2), none, []⟩,
  ⟨some 63, .mov (.t 8), none, []⟩,
  ⟨some 64, .ia 1 (.t 62) (.t 63), none, [3, 4]⟩,
  ⟨some 65, .load 1 true (.t 64), none, [5]⟩,
  ⟨some 66, .mov (.t 0), none, []⟩,
  ⟨some 67, .nilchk (.t 66), none, [7]⟩,
  ⟨some 68, .fa (.t 67) 4, none, [8]⟩,
  ⟨some 69, .load 1 true (.t 68), none, [9]⟩,
  ⟨some 70, .no, none, [2]⟩,
  ⟨some 71, .nilchk (.t 70), none, [11]⟩,
  ⟨some 72, .mov (.t 61), none, [2, 11, 12]⟩,
  ⟨some 73, .call (.meth (.t 72) [(210, 354), (263, 356)]) [.t 65, .t 69], none, [13, 6, 10]⟩,
  ⟨some 74, .ia 1 (.t 59) (.t 60), none, [0, 1, 0, 1, 2, 3, 4, 5, 6, 7, 8, 9, 10, 11, 12, 13, 14]⟩,
  ⟨none, .store 1 (.t 74) (.t 73), none, [15, 14, 14, 0, 1, 2, 3, 4, 5, 6, 7, 8, 9, 10, 11, 12, 13, 14]⟩] [9, 59, 60, 61, 62, 63, 64, 65, 66, 67, 68, 69, 70, 71, 72, 73, 74]
noncomputable def T222 : { F : AFunc // CT.func [[2, 3], [10, 11, 12, 13, 14, 15], [16, 17, 18], [], [22, 23, 24], [25, 26, 27, 28, 29, 30], [7], [5, 6, 31, 32, 33, 34, 35, 36, 37, 38, 39, 40, 41, 42], [5, 6, 31, 43], [19, 20, 21, 22, 44, 45, 46, 47, 48], [49, 50, 51], [], [55, 56, 57, 58], [9, 59, 60, 61, 62, 63, 64, 65, 66, 67, 68, 69, 70, 71, 72, 73, 74], [8, 75, 76, 77, 78, 79, 80], [81], [0, 52, 53, 54, 55, 82, 83, 84]] Tryz.f222 = some F } := FN _ Tryz.f222 85 1 [.t 2, .t 3] (PC.seq ⟨_, by conv => lhs; cbv⟩ (PC.seq ⟨_, by conv => lhs; cbv⟩ (PC.seq ⟨_, by conv => lhs; cbv⟩ (PC.seq ⟨_, by conv => lhs; cbv⟩ (PC.seq (PC.seq ⟨_, by conv => lhs; cbv⟩ (PC.block 2 (PC.loop (PC.seq ⟨_, by conv => lhs; cbv⟩ (PC.seq ⟨_, by conv => lhs; cbv⟩ (PC.seq (PC.block 3 (PC.seq ⟨_, by conv => lhs; cbv⟩ (PC.seq ⟨R_gregory_count_had_13, by kernel_rfl⟩ ⟨_, by conv => lhs; cbv⟩))) ⟨_, by conv => lhs; cbv⟩)))))) ⟨_, by conv => lhs; cbv⟩)))))
theorem c222 : Cert 222 T222.1 := cert_of T222.2 Tryz.func222
-- (*suffrage/gregory.count).round$1
noncomputable def T223 : { F : AFunc // CT.func [[3], [0, 1, 4, 5, 6, 7]] Tryz.f223 = some F } := by
  refine ⟨?F, ?h⟩
  case h =>
    conv => lhs; cbv
theorem c223 : Cert 223 T223.1 := cert_of T223.2 Tryz.func223
-- (*suffrage/gregory.count).in
def R_gregory_count_in_4 : AC := .ops false [⟨some 15, .mov (.t 4), none, []⟩,
  ⟨some 16, .call (.meth (.t 15) [(202, 224), (210, 355), (263, 357)]) [], none, []⟩] [4, 15]
noncomputable def T224 : { F : AFunc // CT.func [[], [0, 5, 6, 7], [], [11, 12, 13, 14], [4, 15], [3, 16, 17, 18, 19, 20], [3, 16, 21], [8, 9, 10, 11, 22]] Tryz.f224 = some F } := FN _ Tryz.f224 23 1 [.t 2] (PC.seq ⟨_, by conv => lhs; cbv⟩ (PC.seq (PC.seq ⟨_, by conv => lhs; cbv⟩ (PC.block 0 (PC.loop (PC.seq ⟨_, by conv => lhs; cbv⟩ (PC.seq ⟨_, by conv => lhs; cbv⟩ (PC.seq (PC.block 1 (PC.seq ⟨_, by conv => lhs; cbv⟩ (PC.seq ⟨R_gregory_count_in_4, by kernel_rfl⟩ ⟨_, by conv => lhs; cbv⟩))) ⟨_, by conv => lhs; cbv⟩)))))) ⟨_, by conv => lhs; cbv⟩))
theorem c224 : Cert 224 T224.1 := cert_of T224.2 Tryz.func224
-- suffrage/gregory.told
noncomputable def T225 : { F : AFunc // CT.func [[], [0], [], [10, 11, 12], [4, 6, 13, 14, 15, 16, 17], [5, 18, 19, 20, 21], [22], [7, 8, 9, 10, 23]] Tryz.f225 = some F } := by
  refine ⟨?F, ?h⟩
  case h =>
    conv => lhs; cbv
theorem c225 : Cert 225 T225.1 := cert_of T225.2 Tryz.func225
-- (*suffrage/gregory.count).elect
noncomputable def T226 : { F : AFunc // CT.func [[4, 5, 6, 7, 8, 9, 10, 11], [0, 1, 12, 13, 14, 15, 16, 17, 18, 19, 20, 21, 22, 23, 24, 25, 26, 27, 28, 29]] Tryz.f226 = some F } := by
  refine ⟨?F, ?h⟩
  case h =>
    conv => lhs; cbv
theorem c226 : Cert 226 T226.1 := cert_of T226.2 Tryz.func226
end Go.Proofs.YtncdaicaljpgfaaGreat
