/- The functions in the abstract language, worked out by Lean. -/
import Derived.Test.YtigdhgbkgfagiaaGreatZAlPc
set_option linter.unusedVariables false
set_option maxHeartbeats 1000000
set_option maxRecDepth 100000
namespace Go.Proofs.YtigdhgbkgfagiaaGreat
noncomputable def T165 : { F : AFunc // CT.func [[4], [], [], [], [9, 10, 11, 12, 13, 14, 15, 16, 17, 18, 19, 20, 21], [23, 24], [6, 22, 25, 26, 27, 28, 29, 30, 31, 32, 33], [34, 35, 36, 37, 38, 39], [8, 40, 41], [0, 1, 5, 6, 7, 22, 42, 43]] Tryz.f165 = some F } := by
 refine ⟨?F, ?h⟩
 case h =>
  conv => lhs; cbv
theorem c165 : Cert 165 T165.1 := cert_of T165.2 Tryz.func165
noncomputable def T166 : { F : AFunc // CT.func [[4], [6, 7, 8, 9], [0, 1, 10, 11, 12, 13, 14, 15], [10, 16, 17, 18], [19], [21, 22, 31], [20, 23, 24, 25, 26, 27, 28, 29, 30], [0, 1, 5, 31, 32, 33, 34, 35, 36, 37, 38, 39, 40], [0, 1, 5, 20]] Tryz.f166 = some F } := by
 refine ⟨?F, ?h⟩
 case h =>
  conv => lhs; cbv
theorem c166 : Cert 166 T166.1 := cert_of T166.2 Tryz.func166
noncomputable def T167 : { F : AFunc // CT.func [[], [8, 15, 16, 17, 18, 19, 20], [1, 10, 11, 21, 22, 23, 24, 25, 26, 27], [2, 7, 13, 14, 28, 29, 30, 31, 32, 33, 34], [0, 9, 12, 35, 36, 37, 38, 39, 40, 41, 42, 43]] Tryz.f167 = some F } := by
 refine ⟨?F, ?h⟩
 case h =>
  conv => lhs; cbv
theorem c167 : Cert 167 T167.1 := cert_of T167.2 Tryz.func167
noncomputable def T168 : { F : AFunc // CT.func [[2], [], [4], [5, 6, 7, 8, 9, 10, 11], [12, 13], [0, 3, 5, 14]] Tryz.f168 = some F } := by
 refine ⟨?F, ?h⟩
 case h =>
  conv => lhs; cbv
theorem c168 : Cert 168 T168.1 := cert_of T168.2 Tryz.func168
noncomputable def T169 : { F : AFunc // CT.func [[2], [3], [0, 4, 5, 6, 7, 8, 9], [0, 4, 10, 11]] Tryz.f169 = some F } := by
 refine ⟨?F, ?h⟩
 case h =>
  conv => lhs; cbv
theorem c169 : Cert 169 T169.1 := cert_of T169.2 Tryz.func169
noncomputable def T170 : { F : AFunc // CT.func [[4], [6, 7, 8, 9], [0, 1, 10], [10, 11], [], [14, 15], [5, 16, 17, 18, 19, 20, 21, 22, 23], [0, 1, 12, 13, 24], [24, 25], [0, 1, 12, 13, 14]] Tryz.f170 = some F } := by
 refine ⟨?F, ?h⟩
 case h =>
  conv => lhs; cbv
theorem c170 : Cert 170 T170.1 := cert_of T170.2 Tryz.func170
noncomputable def T171 : { F : AFunc // CT.func [[0, 1, 4], [2, 7, 8, 9, 10, 11], [12], [3, 5, 6, 13, 14], [3, 5, 6, 13, 15, 16, 17, 18, 19, 20, 21, 22, 23], [24], [24]] Tryz.f171 = some F } := by
 refine ⟨?F, ?h⟩
 case h =>
  conv => lhs; cbv
theorem c171 : Cert 171 T171.1 := cert_of T171.2 Tryz.func171
noncomputable def T172 : { F : AFunc // CT.func [[2, 3], [4, 5, 6], [0, 7], [0, 7, 8, 9, 10]] Tryz.f172 = some F } := by
 refine ⟨?F, ?h⟩
 case h =>
  conv => lhs; cbv
theorem c172 : Cert 172 T172.1 := cert_of T172.2 Tryz.func172
noncomputable def T173 : { F : AFunc // CT.func [[4, 5], [6, 7, 8, 9, 10, 11, 12, 13, 14, 15, 16], [0, 1, 17], [0, 17, 18, 19], [1, 20], [1, 20, 21]] Tryz.f173 = some F } := by
 refine ⟨?F, ?h⟩
 case h =>
  conv => lhs; cbv
theorem c173 : Cert 173 T173.1 := cert_of T173.2 Tryz.func173
noncomputable def T174 : { F : AFunc // CT.func [[4], [0], [7], [1, 5, 6, 8], [1, 5, 6, 10], [9], [9]] Tryz.f174 = some F } := by
 refine ⟨?F, ?h⟩
 case h =>
  conv => lhs; cbv
theorem c174 : Cert 174 T174.1 := cert_of T174.2 Tryz.func174
noncomputable def T175 : { F : AFunc // CT.func [[2], [0], [5], [3, 4], [3, 4, 7], [6], [6]] Tryz.f175 = some F } := by
 refine ⟨?F, ?h⟩
 case h =>
  conv => lhs; cbv
theorem c175 : Cert 175 T175.1 := cert_of T175.2 Tryz.func175
noncomputable def T176 : { F : AFunc // CT.func [[0, 1, 4], [2, 8, 9, 10, 11, 12], [13], [3, 5, 6, 14, 15], [6, 14, 16, 17, 18, 19], [3, 5, 20], [20], [21, 22], [24, 25, 31], [23, 26, 27, 28, 29, 30], [3, 5, 7, 31], [3, 5, 7, 23]] Tryz.f176 = some F } := by
 refine ⟨?F, ?h⟩
 case h =>
  conv => lhs; cbv
theorem c176 : Cert 176 T176.1 := cert_of T176.2 Tryz.func176
noncomputable def T177 : { F : AFunc // CT.func [[0, 4], [1, 2, 5, 6, 7, 8, 9, 10, 11, 12, 13, 14]] Tryz.f177 = some F } := by
 refine ⟨?F, ?h⟩
 case h =>
  conv => lhs; cbv
theorem c177 : Cert 177 T177.1 := cert_of T177.2 Tryz.func177
noncomputable def T178 : { F : AFunc // CT.func [[0, 1, 6, 7], [], [], [], [14, 15, 16, 17], [19, 20], [18, 21, 22, 23, 24, 25, 26, 27, 28], [29, 30, 31, 32, 33, 34], [11, 35, 36, 37, 38, 39, 40, 41], [12, 42], [13, 43], [44, 45, 46, 47, 48], [11, 35, 44, 49, 50, 51, 52], [2, 3, 4, 8, 9, 10, 18, 53, 54]] Tryz.f178 = some F } := by
 refine ⟨?F, ?h⟩
 case h =>
  conv => lhs; cbv
theorem c178 : Cert 178 T178.1 := cert_of T178.2 Tryz.func178
noncomputable def T179 : { F : AFunc // CT.func [[2], [0], [5], [6], [7], [8], [9], [10], [3, 4], [3, 4, 12], [11], [11]] Tryz.f179 = some F } := by
 refine ⟨?F, ?h⟩
 case h =>
  conv => lhs; cbv
theorem c179 : Cert 179 T179.1 := cert_of T179.2 Tryz.func179
noncomputable def T180 : { F : AFunc // CT.func [[6, 7], [], [], [], [12, 13], [11, 15, 16, 37, 44], [14, 17, 18, 19, 20, 21], [22, 23], [0, 1, 2, 8, 9, 10, 11, 24, 25], [24, 26, 27], [11, 28, 29, 30], [31, 32, 33, 34, 35, 36], [0, 1, 2, 8, 9, 10, 37, 38], [28], [39, 40, 41, 42, 43], [11, 44, 45, 46, 47, 48, 49, 50], [0, 1, 2, 8, 9, 10, 14, 51]] Tryz.f180 = some F } := by
 refine ⟨?F, ?h⟩
 case h =>
  conv => lhs; cbv
theorem c180 : Cert 180 T180.1 := cert_of T180.2 Tryz.func180
noncomputable def T181 : { F : AFunc // CT.func [[4, 5], [0, 7, 8, 9, 10], [1, 11, 12, 13], [6, 14], [6, 14, 15]] Tryz.f181 = some F } := by
 refine ⟨?F, ?h⟩
 case h =>
  conv => lhs; cbv
theorem c181 : Cert 181 T181.1 := cert_of T181.2 Tryz.func181
noncomputable def T182 : { F : AFunc // CT.func [[4], [0, 5, 6, 7, 8, 9], [1, 10], [1, 10, 11]] Tryz.f182 = some F } := by
 refine ⟨?F, ?h⟩
 case h =>
  conv => lhs; cbv
theorem c182 : Cert 182 T182.1 := cert_of T182.2 Tryz.func182
noncomputable def T183 : { F : AFunc // CT.func [[4, 5], [], [], [], [12, 13], [15, 16], [14], [], [17], [19, 20, 27], [18, 21, 22, 23, 24, 25, 26], [27, 28], [29, 30], [10, 11, 18, 31], [32], [33, 34], [9, 32, 35, 36, 37, 38], [0, 1, 6, 7, 8, 14, 39, 40]] Tryz.f183 = some F } := by
 refine ⟨?F, ?h⟩
 case h =>
  conv => lhs; cbv
theorem c183 : Cert 183 T183.1 := cert_of T183.2 Tryz.func183
noncomputable def T184 : { F : AFunc // CT.func [[4, 5, 6], [7, 8, 9], [10], [0, 1, 11, 12], [6, 11, 13, 14], [0, 1, 15], [0, 1, 15, 16, 17, 18, 19, 20, 21], [22, 23]] Tryz.f184 = some F } := by
 refine ⟨?F, ?h⟩
 case h =>
  conv => lhs; cbv
theorem c184 : Cert 184 T184.1 := cert_of T184.2 Tryz.func184
noncomputable def T185 : { F : AFunc // CT.func [[4], [6], [], [9, 10], [11, 12, 13, 14, 15], [0, 1, 5, 7, 8, 16, 17], [5, 16, 18], [0, 1, 7, 8, 9]] Tryz.f185 = some F } := by
 refine ⟨?F, ?h⟩
 case h =>
  conv => lhs; cbv
theorem c185 : Cert 185 T185.1 := cert_of T185.2 Tryz.func185
noncomputable def T186 : { F : AFunc // CT.func [[4], [6], [], [9, 10], [11, 12, 13, 14, 15], [0, 1, 5, 7, 8, 16, 17], [5, 16, 18], [0, 1, 7, 8, 9]] Tryz.f186 = some F } := by
 refine ⟨?F, ?h⟩
 case h =>
  conv => lhs; cbv
theorem c186 : Cert 186 T186.1 := cert_of T186.2 Tryz.func186
noncomputable def T187 : { F : AFunc // CT.func [[4], [6], [], [9, 10], [11, 12, 13, 14, 15], [0, 1, 5, 7, 8, 16, 17], [5, 16, 18], [0, 1, 7, 8, 9]] Tryz.f187 = some F } := by
 refine ⟨?F, ?h⟩
 case h =>
  conv => lhs; cbv
theorem c187 : Cert 187 T187.1 := cert_of T187.2 Tryz.func187
noncomputable def T188 : { F : AFunc // CT.func [[], [1, 2, 3, 4, 5, 6, 7, 8, 9, 10, 11, 12, 13, 14, 15, 16, 17]] Tryz.f188 = some F } := by
 refine ⟨?F, ?h⟩
 case h =>
  conv => lhs; cbv
theorem c188 : Cert 188 T188.1 := cert_of T188.2 Tryz.func188
noncomputable def T189 : { F : AFunc // CT.func [[4, 5], [9, 10, 11, 12], [0, 1, 8, 13, 14], [8, 16, 17, 18], [0, 1, 15, 19, 20, 21, 22, 23, 24, 25, 26], [6, 7, 27, 28, 29, 30], [0, 1, 15, 31, 32, 33, 34, 35]] Tryz.f189 = some F } := by
 refine ⟨?F, ?h⟩
 case h =>
  conv => lhs; cbv
theorem c189 : Cert 189 T189.1 := cert_of T189.2 Tryz.func189
noncomputable def T190 : { F : AFunc // CT.func [[], [], [], [12, 13, 14, 15], [8, 16, 17, 18, 19, 20, 21, 22, 23, 24, 25, 26, 27, 28], [7, 29, 30, 31, 32, 33], [34, 35], [36], [0, 1, 2, 6, 9, 10, 11, 12, 37, 38, 39, 40, 41, 42, 43, 44, 45]] Tryz.f190 = some F } := by
 refine ⟨?F, ?h⟩
 case h =>
  conv => lhs; cbv
theorem c190 : Cert 190 T190.1 := cert_of T190.2 Tryz.func190
noncomputable def T191 : { F : AFunc // CT.func [[2, 3], [4, 5], [6, 7], [0, 8], [0, 8, 9]] Tryz.f191 = some F } := by
 refine ⟨?F, ?h⟩
 case h =>
  conv => lhs; cbv
theorem c191 : Cert 191 T191.1 := cert_of T191.2 Tryz.func191
noncomputable def T192 : { F : AFunc // CT.func [[2], [3, 4], [0, 5], [0, 5, 6, 7, 8, 9, 10, 11, 12, 13, 14, 15, 16], [17], [17]] Tryz.f192 = some F } := by
 refine ⟨?F, ?h⟩
 case h =>
  conv => lhs; cbv
theorem c192 : Cert 192 T192.1 := cert_of T192.2 Tryz.func192
noncomputable def T193 : { F : AFunc // CT.func [[2], [0, 4, 5, 6], [7, 8, 9, 10, 11, 12, 13, 14, 15, 16, 17], [18, 19, 20, 21, 22, 23], [3, 18, 24]] Tryz.f193 = some F } := by
 refine ⟨?F, ?h⟩
 case h =>
  conv => lhs; cbv
theorem c193 : Cert 193 T193.1 := cert_of T193.2 Tryz.func193
noncomputable def T194 : { F : AFunc // CT.func [[2], [5, 6, 7], [], [8, 9, 10], [12, 13], [11, 14, 15, 16, 17, 18, 19, 20, 21, 22, 23, 24, 25, 26, 27, 28, 29, 30], [0, 3, 4, 11, 31, 32]] Tryz.f194 = some F } := by
 refine ⟨?F, ?h⟩
 case h =>
  conv => lhs; cbv
theorem c194 : Cert 194 T194.1 := cert_of T194.2 Tryz.func194
noncomputable def T195 : { F : AFunc // CT.func [[4], [], [], [], [9, 10, 11], [13, 14], [6, 12, 15, 16, 17, 18, 19, 20, 21, 22, 23, 24], [25, 26, 27, 28, 29, 30], [8, 31, 32, 33], [0, 1, 5, 6, 7, 12, 34, 35]] Tryz.f195 = some F } := by
 refine ⟨?F, ?h⟩
 case h =>
  conv => lhs; cbv
theorem c195 : Cert 195 T195.1 := cert_of T195.2 Tryz.func195
noncomputable def T196 : { F : AFunc // CT.func [[4], [5, 6, 7], [0, 1, 8], [0, 1, 8, 9, 10, 11, 12, 13]] Tryz.f196 = some F } := by
 refine ⟨?F, ?h⟩
 case h =>
  conv => lhs; cbv
theorem c196 : Cert 196 T196.1 := cert_of T196.2 Tryz.func196
noncomputable def T197 : { F : AFunc // CT.func [[4, 5, 6], [11, 12, 13], [14], [0, 1, 7, 15, 16], [7, 15, 17, 18], [0, 1, 19], [19, 20, 21, 22], [], [23, 24, 25, 26], [27], [29, 30, 51], [28, 31, 32, 33], [34, 35, 36, 37, 38, 39, 40, 41, 42, 43], [44, 45, 46, 47], [44, 48, 49, 50], [51, 52, 53, 54], [55, 56, 57, 58, 59, 60, 61, 62, 63, 64, 65, 66, 67, 68], [0, 1, 8, 9, 10, 28, 69, 70, 71]] Tryz.f197 = some F } := by
 refine ⟨?F, ?h⟩
 case h =>
  conv => lhs; cbv
theorem c197 : Cert 197 T197.1 := cert_of T197.2 Tryz.func197
noncomputable def T198 : { F : AFunc // CT.func [[0, 2, 3], [7, 8], [9], [1, 4, 10, 11], [4, 6, 10, 12, 13, 14, 15, 16, 17], [1, 5, 18, 19, 20, 21, 22, 23, 24, 25, 26]] Tryz.f198 = some F } := by
 refine ⟨?F, ?h⟩
 case h =>
  conv => lhs; cbv
theorem c198 : Cert 198 T198.1 := cert_of T198.2 Tryz.func198
noncomputable def T199 : { F : AFunc // CT.func [[2], [0, 3, 4]] Tryz.f199 = some F } := by
 refine ⟨?F, ?h⟩
 case h =>
  conv => lhs; cbv
theorem c199 : Cert 199 T199.1 := cert_of T199.2 Tryz.func199
noncomputable def T200 : { F : AFunc // CT.func [[], [6, 7, 8], [], [11, 12], [], [3, 13, 14], [0, 2, 9, 10, 15, 16], [4, 5, 17, 18, 19, 20], [15, 22, 23, 24], [0, 2, 4, 9, 10, 21, 25, 26, 27, 28], [21, 30, 31, 32], [4, 29, 33, 34], [35, 36, 37, 38, 39], [29], [41, 42, 43, 44, 45, 46, 47, 48, 49, 50], [4, 51, 52, 53, 54, 55, 56, 57, 58, 59, 60, 61, 62, 63, 64, 65, 66, 67], [4, 40, 51, 68]] Tryz.f200 = some F } := by
 refine ⟨?F, ?h⟩
 case h =>
  conv => lhs; cbv
theorem c200 : Cert 200 T200.1 := cert_of T200.2 Tryz.func200
noncomputable def T201 : { F : AFunc // CT.func [[5, 6, 7, 8, 9, 10, 11, 12, 13, 14], [15, 16, 17], [], [20, 21], [22, 23, 24, 25, 26, 27, 28, 29, 30, 31, 32, 33, 34, 35, 36, 37, 38, 39], [40, 41], [2, 4, 42, 43, 44, 45, 46, 47, 48, 49, 50, 54], [52, 53], [3, 51, 55, 56, 57, 58, 59], [2, 4, 54, 60, 61, 62, 63, 64, 65, 66, 67, 68], [2, 3, 4, 51, 69]] Tryz.f201 = some F } := by
 refine ⟨?F, ?h⟩
 case h =>
  conv => lhs; cbv
theorem c201 : Cert 201 T201.1 := cert_of T201.2 Tryz.func201
noncomputable def T202 : { F : AFunc // CT.func [[2, 3, 4, 5, 6, 7, 8, 9], [10, 11, 12, 13, 14, 15, 16, 17, 18, 19, 20], [0, 21, 22, 23, 24, 25, 26, 27, 28, 29, 30]] Tryz.f202 = some F } := by
 refine ⟨?F, ?h⟩
 case h =>
  conv => lhs; cbv
theorem c202 : Cert 202 T202.1 := cert_of T202.2 Tryz.func202
noncomputable def T203 : { F : AFunc // CT.func [[0, 2, 3], [5, 6], [7], [1, 4, 8, 9], [1, 4, 8, 10, 11, 12, 13, 14, 15]] Tryz.f203 = some F } := by
 refine ⟨?F, ?h⟩
 case h =>
  conv => lhs; cbv
theorem c203 : Cert 203 T203.1 := cert_of T203.2 Tryz.func203
noncomputable def T204 : { F : AFunc // CT.func [[4, 5], [], [7, 8, 9], [11, 12, 19], [10, 13, 14, 15, 16, 17, 18], [0, 1, 6, 19, 20, 21, 22, 23, 24], [0, 1, 6, 10]] Tryz.f204 = some F } := by
 refine ⟨?F, ?h⟩
 case h =>
  conv => lhs; cbv
theorem c204 : Cert 204 T204.1 := cert_of T204.2 Tryz.func204
noncomputable def T205 : { F : AFunc // CT.func [[8], [], [], [11, 12], [14, 15, 23], [13, 16, 17, 18, 19, 20, 21, 22], [23, 24, 25, 26, 27], [0, 1, 2, 3, 9, 10, 13, 28]] Tryz.f205 = some F } := by
 refine ⟨?F, ?h⟩
 case h =>
  conv => lhs; cbv
theorem c205 : Cert 205 T205.1 := cert_of T205.2 Tryz.func205
noncomputable def T206 : { F : AFunc // CT.func [[4], [], [6, 7, 8], [10, 11, 17], [9, 12, 13, 14, 15, 16], [0, 1, 5, 17], [0, 1, 5, 9]] Tryz.f206 = some F } := by
 refine ⟨?F, ?h⟩
 case h =>
  conv => lhs; cbv
theorem c206 : Cert 206 T206.1 := cert_of T206.2 Tryz.func206
noncomputable def T207 : { F : AFunc // CT.func [[4], [7, 8, 9], [10, 11, 12], [13], [15, 16], [14, 17, 18, 19, 20, 21, 22, 23, 24, 25, 26, 27, 28, 29], [0, 1, 6, 14, 30, 31, 32]] Tryz.f207 = some F } := by
 refine ⟨?F, ?h⟩
 case h =>
  conv => lhs; cbv
theorem c207 : Cert 207 T207.1 := cert_of T207.2 Tryz.func207
noncomputable def T208 : { F : AFunc // CT.func [[4, 5], [14, 15, 16, 17, 18, 19, 20], [0, 1, 21, 22, 23, 24, 25, 26, 27], [28, 29], [30, 31, 32, 33, 34], [35, 36, 37], [38], [40, 41], [39, 42, 43, 44, 45, 46, 47, 48, 49, 50, 51, 52], [53, 54, 55], [56, 57, 58], [59, 60, 61], [11, 62, 63, 64], [11, 12, 59, 65, 66, 67, 68, 69], [8, 9, 10, 39, 70, 71], [72], [], [75, 76], [13, 77, 78, 79, 80, 81, 82, 83, 84, 85, 86, 87, 88, 89, 90, 91, 92, 93, 94, 95], [96], [6, 7, 73, 74, 75, 97, 98, 99, 100]] Tryz.f208 = some F } := by
 refine ⟨?F, ?h⟩
 case h =>
  conv => lhs; cbv
theorem c208 : Cert 208 T208.1 := cert_of T208.2 Tryz.func208
noncomputable def T209 : { F : AFunc // CT.func [[0, 1, 4], [2, 3, 5]] Tryz.f209 = some F } := by
 refine ⟨?F, ?h⟩
 case h =>
  conv => lhs; cbv
theorem c209 : Cert 209 T209.1 := cert_of T209.2 Tryz.func209
noncomputable def T210 : { F : AFunc // CT.func [[4], [0, 1, 5, 6, 7, 8]] Tryz.f210 = some F } := by
 refine ⟨?F, ?h⟩
 case h =>
  conv => lhs; cbv
theorem c210 : Cert 210 T210.1 := cert_of T210.2 Tryz.func210
noncomputable def T211 : { F : AFunc // CT.func [[4], [6], [], [9, 10], [11, 12, 13, 14, 15], [0, 1, 5, 7, 8, 16, 17], [5, 16, 18], [0, 1, 7, 8, 9]] Tryz.f211 = some F } := by
 refine ⟨?F, ?h⟩
 case h =>
  conv => lhs; cbv
theorem c211 : Cert 211 T211.1 := cert_of T211.2 Tryz.func211
noncomputable def T212 : { F : AFunc // CT.func [[4], [0, 1, 5, 6, 7, 8]] Tryz.f212 = some F } := by
 refine ⟨?F, ?h⟩
 case h =>
  conv => lhs; cbv
theorem c212 : Cert 212 T212.1 := cert_of T212.2 Tryz.func212
noncomputable def T213 : { F : AFunc // CT.func [[2], [0, 3, 4]] Tryz.f213 = some F } := by
 refine ⟨?F, ?h⟩
 case h =>
  conv => lhs; cbv
theorem c213 : Cert 213 T213.1 := cert_of T213.2 Tryz.func213
noncomputable def T214 : { F : AFunc // CT.func [[0, 2], [3, 4, 5], [1, 6], [1, 6, 7, 8], [9], [9]] Tryz.f214 = some F } := by
 refine ⟨?F, ?h⟩
 case h =>
  conv => lhs; cbv
theorem c214 : Cert 214 T214.1 := cert_of T214.2 Tryz.func214
noncomputable def T215 : { F : AFunc // CT.func [[0, 2], [3, 4], [7], [1, 5, 6, 8, 9, 10], [1, 5, 6, 12], [11], [11]] Tryz.f215 = some F } := by
 refine ⟨?F, ?h⟩
 case h =>
  conv => lhs; cbv
theorem c215 : Cert 215 T215.1 := cert_of T215.2 Tryz.func215
noncomputable def T216 : { F : AFunc // CT.func [[6, 7], [9, 10, 11, 12, 13, 14], [15, 16], [0, 1, 15, 17, 18, 19, 20, 21, 22], [2, 8, 23, 24, 25, 26, 27, 28, 29, 30, 31, 32]] Tryz.f216 = some F } := by
 refine ⟨?F, ?h⟩
 case h =>
  conv => lhs; cbv
theorem c216 : Cert 216 T216.1 := cert_of T216.2 Tryz.func216
noncomputable def T217 : { F : AFunc // CT.func [[2], [0, 3, 4, 5]] Tryz.f217 = some F } := by
 refine ⟨?F, ?h⟩
 case h =>
  conv => lhs; cbv
theorem c217 : Cert 217 T217.1 := cert_of T217.2 Tryz.func217
noncomputable def T218 : { F : AFunc // CT.func [[4], [7, 8, 9, 10], [11, 12, 13], [0, 14, 15], [16], [18, 19, 28], [17, 20, 21, 22, 23, 24, 25, 26], [27], [28, 29, 30, 31, 32, 33, 34, 35, 36, 37, 38, 39, 40, 41, 42, 43, 44], [1, 5, 6, 17, 45]] Tryz.f218 = some F } := by
 refine ⟨?F, ?h⟩
 case h =>
  conv => lhs; cbv
theorem c218 : Cert 218 T218.1 := cert_of T218.2 Tryz.func218
end Go.Proofs.YtigdhgbkgfagiaaGreat
