/- The functions in the abstract language, worked out by Lean. -/
import Derived.Test.YtkpfhnicdlgjiaaGreatAlPc
set_option linter.unusedVariables false
set_option maxHeartbeats 1000000
set_option maxRecDepth 100000
namespace Go.Proofs.YtkpfhnicdlgjiaaGreat
-- slices.IndexFunc[[]string,string]
noncomputable def T150 : { F : AFunc // CT.func [[4], [6], [], [9, 10], [11, 12, 13, 14, 15], [0, 1, 5, 7, 8, 16, 17], [5, 16, 18], [0, 1, 7, 8, 9]] Tryz.f150 = some F } := by
  refine ⟨?F, ?h⟩
  case h =>
    conv => lhs; cbv
theorem c150 : Cert 150 T150.1 := cert_of T150.2 Tryz.func150
-- slices.IndexFunc[[]byte,byte]
noncomputable def T151 : { F : AFunc // CT.func [[4], [6], [], [9, 10], [11, 12, 13, 14, 15], [0, 1, 5, 7, 8, 16, 17], [5, 16, 18], [0, 1, 7, 8, 9]] Tryz.f151 = some F } := by
  refine ⟨?F, ?h⟩
  case h =>
    conv => lhs; cbv
theorem c151 : Cert 151 T151.1 := cert_of T151.2 Tryz.func151
-- slices.Index[[]string,string]
noncomputable def T152 : { F : AFunc // CT.func [[4], [6], [], [9, 10], [11, 12, 13, 14, 15], [0, 1, 5, 7, 8, 16, 17], [5, 16, 18], [0, 1, 7, 8, 9]] Tryz.f152 = some F } := by
  refine ⟨?F, ?h⟩
  case h =>
    conv => lhs; cbv
theorem c152 : Cert 152 T152.1 := cert_of T152.2 Tryz.func152
-- slices.IsSorted[[]int,int]
noncomputable def T153 : { F : AFunc // CT.func [[2], [4, 5, 6], [7], [9, 10, 20], [8, 11, 12, 13, 14, 15, 16, 17, 18, 19], [0, 3, 20], [0, 3, 8]] Tryz.f153 = some F } := by
  refine ⟨?F, ?h⟩
  case h =>
    conv => lhs; cbv
theorem c153 : Cert 153 T153.1 := cert_of T153.2 Tryz.func153
-- (*suffrage/choose.Count).One
noncomputable def T154 : { F : AFunc // CT.func [[], [3, 9, 10, 11, 12, 13, 14, 15, 16], [1, 2, 17, 18, 19, 20, 21, 22, 23, 24, 25, 26, 27, 28, 29, 30, 31, 32], [0, 33, 34, 35, 36]] Tryz.f154 = some F } := by
  refine ⟨?F, ?h⟩
  case h =>
    conv => lhs; cbv
theorem c154 : Cert 154 T154.1 := cert_of T154.2 Tryz.func154
-- suffrage/pairs.within
noncomputable def T155 : { F : AFunc // CT.func [[4], [0, 1, 5, 6, 7, 8, 9, 10, 11]] Tryz.f155 = some F } := by
  refine ⟨?F, ?h⟩
  case h =>
    conv => lhs; cbv
theorem c155 : Cert 155 T155.1 := cert_of T155.2 Tryz.func155
-- suffrage/pairs.Right
noncomputable def T156 : { F : AFunc // CT.func [[0, 4], [10, 11, 12, 13, 14], [1, 2, 15], [15, 16], [], [], [19, 20, 21], [7], [], [24, 25, 26], [9, 27, 28, 29, 30, 31, 32, 33, 34, 35, 36, 37, 38, 39], [1, 2, 5, 6, 8, 17, 18, 22, 23, 40], [40, 41, 42, 43, 44, 45, 46, 47, 48, 49, 50, 51, 52, 53, 54], [8, 55, 56, 57, 58, 59], [8, 55, 60], [6, 22, 23, 24, 61], [1, 2, 5, 17, 18, 19, 62, 63, 64]] Tryz.f156 = some F } := by
  refine ⟨?F, ?h⟩
  case h =>
    conv => lhs; cbv
theorem c156 : Cert 156 T156.1 := cert_of T156.2 Tryz.func156
-- suffrage/condorcet.count$1
noncomputable def T157 : { F : AFunc // CT.func [[4], [0, 1, 2, 5, 6, 7, 8]] Tryz.f157 = some F } := by
  refine ⟨?F, ?h⟩
  case h =>
    conv => lhs; cbv
theorem c157 : Cert 157 T157.1 := cert_of T157.2 Tryz.func157
-- suffrage/ratio.lowest
noncomputable def T158 : { F : AFunc // CT.func [[], [8, 9, 10, 11, 12, 13, 14], [15, 16, 17, 18, 19, 20, 21], [7, 22, 23, 24, 25, 26, 27, 28], [0, 1, 2, 29, 30, 31, 32, 33, 34, 35, 36, 37]] Tryz.f158 = some F } := by
  refine ⟨?F, ?h⟩
  case h =>
    conv => lhs; cbv
theorem c158 : Cert 158 T158.1 := cert_of T158.2 Tryz.func158
-- suffrage/nat.Of
noncomputable def T159 : { F : AFunc // CT.func [[2], [0, 3, 4, 5, 6, 7, 8, 9]] Tryz.f159 = some F } := by
  refine ⟨?F, ?h⟩
  case h =>
    conv => lhs; cbv
theorem c159 : Cert 159 T159.1 := cert_of T159.2 Tryz.func159
-- suffrage/ratio.size
noncomputable def T160 : { F : AFunc // CT.func [[2], [3], [0, 4, 5, 6, 7, 8, 9], [0, 4, 10, 11]] Tryz.f160 = some F } := by
  refine ⟨?F, ?h⟩
  case h =>
    conv => lhs; cbv
theorem c160 : Cert 160 T160.1 := cert_of T160.2 Tryz.func160
-- suffrage/ratio.one
noncomputable def T161 : { F : AFunc // CT.func [[0], [1]] Tryz.f161 = some F } := by
  refine ⟨?F, ?h⟩
  case h =>
    conv => lhs; cbv
theorem c161 : Cert 161 T161.1 := cert_of T161.2 Tryz.func161
-- suffrage/choose.Lot
noncomputable def T162 : { F : AFunc // CT.func [[4], [0, 8, 9, 10], [], [], [14, 15, 16, 17], [6, 7, 18, 19], [1, 5, 11, 12, 13, 20], [20, 21], [1, 5, 11, 12, 13, 14, 22, 23, 24, 25]] Tryz.f162 = some F } := by
  refine ⟨?F, ?h⟩
  case h =>
    conv => lhs; cbv
theorem c162 : Cert 162 T162.1 := cert_of T162.2 Tryz.func162
-- suffrage/ballot.Prefers
noncomputable def T163 : { F : AFunc // CT.func [[0, 6], [9, 10, 11, 12, 13], [1, 2, 3, 14], [14, 15, 16, 17, 18, 19, 20, 21, 22], [23], [26], [1, 2, 3, 7, 8, 24, 25, 27, 28, 29, 30, 31, 32, 33, 34, 35, 36, 37], [25, 39], [1, 2, 3, 7, 8, 24, 38, 40, 41, 42, 43, 44, 45], [7, 8, 24, 38, 47], [1, 2, 3, 46, 48, 49, 50, 51, 52, 53, 54, 55, 56, 57, 58, 59, 60, 61, 62, 63, 64, 65, 66, 67, 68, 69, 70, 71, 72], [1, 2, 3, 46]] Tryz.f163 = some F } := by
  refine ⟨?F, ?h⟩
  case h =>
    conv => lhs; cbv
theorem c163 : Cert 163 T163.1 := cert_of T163.2 Tryz.func163
-- suffrage/paths.links
noncomputable def T164 : { F : AFunc // CT.func [[0], [], [], [7, 8], [9, 10], [], [13, 14, 15], [16, 17, 18, 19, 20, 21], [4, 5, 22, 23, 24, 25, 26, 27], [4, 5, 22, 28], [3, 11, 12, 13, 29], [1, 6, 7, 30]] Tryz.f164 = some F } := by
  refine ⟨?F, ?h⟩
  case h =>
    conv => lhs; cbv
theorem c164 : Cert 164 T164.1 := cert_of T164.2 Tryz.func164
-- suffrage/paths.longer
noncomputable def T165 : { F : AFunc // CT.func [[0], [7], [], [], [9, 10], [], [], [12, 13], [], [], [15, 16], [17, 18], [6, 19, 20, 21, 22, 23, 24, 25, 26, 27, 28, 29, 30, 31, 32, 33, 34, 35, 36, 37, 38, 39, 40], [6, 19, 41], [5, 14, 15, 42], [4, 11, 12, 43], [1, 3, 8, 9, 44]] Tryz.f165 = some F } := by
  refine ⟨?F, ?h⟩
  case h =>
    conv => lhs; cbv
theorem c165 : Cert 165 T165.1 := cert_of T165.2 Tryz.func165
-- (*suffrage/choose.Count).tell
noncomputable def T166 : { F : AFunc // CT.func [[6], [8, 9], [1, 10, 11, 12], [13, 14], [0, 7, 15, 16, 17, 18, 19, 20, 21, 22, 23, 24, 25, 26, 27, 28], [0, 1, 2, 10, 29]] Tryz.f166 = some F } := by
  refine ⟨?F, ?h⟩
  case h =>
    conv => lhs; cbv
theorem c166 : Cert 166 T166.1 := cert_of T166.2 Tryz.func166
-- (*suffrage/choose.Count).first
noncomputable def T167 : { F : AFunc // CT.func [[0, 4], [1, 2, 5, 6, 7]] Tryz.f167 = some F } := by
  refine ⟨?F, ?h⟩
  case h =>
    conv => lhs; cbv
theorem c167 : Cert 167 T167.1 := cert_of T167.2 Tryz.func167
-- suffrage/ranked.Order
noncomputable def T168 : { F : AFunc // CT.func [[0, 7], [1, 13, 14, 15, 16], [17], [2, 3, 18, 19], [7, 18], [], [23, 24, 25], [], [], [29, 30, 31], [32, 33, 34, 35, 36, 37, 38, 39, 40, 41, 42], [43], [11, 12, 44, 45, 46, 47, 48, 49, 50, 51, 52, 53, 54, 55, 56], [11, 12, 44, 57], [9, 26, 27, 28, 29, 58], [2, 3, 20, 21, 22, 23, 59, 60], [61]] Tryz.f168 = some F } := by
  refine ⟨?F, ?h⟩
  case h =>
    conv => lhs; cbv
theorem c168 : Cert 168 T168.1 := cert_of T168.2 Tryz.func168
-- suffrage/ranked.Leads
noncomputable def T169 : { F : AFunc // CT.func [[0, 2, 6], [9, 10, 11], [], [3, 5, 7, 12], [1, 8, 13, 14, 15]] Tryz.f169 = some F } := by
  refine ⟨?F, ?h⟩
  case h =>
    conv => lhs; cbv
theorem c169 : Cert 169 T169.1 := cert_of T169.2 Tryz.func169
-- slices.Index[[]suffrage/api.Link,suffrage/api.Link]
noncomputable def T170 : { F : AFunc // CT.func [[1, 4], [6], [], [9, 10], [11, 12, 13, 14, 15], [0, 3, 5, 7, 8, 16, 17], [5, 16, 18], [0, 3, 7, 8, 9]] Tryz.f170 = some F } := by
  refine ⟨?F, ?h⟩
  case h =>
    conv => lhs; cbv
theorem c170 : Cert 170 T170.1 := cert_of T170.2 Tryz.func170
-- suffrage/runoff.firsts
noncomputable def T171 : { F : AFunc // CT.func [[0, 4], [9, 10, 11], [2, 12], [], [16, 17, 18], [19, 20, 21, 22], [23], [7, 8, 24, 25, 26, 27, 28, 29, 30, 31, 32, 33, 34, 35, 36], [7, 8, 24, 37, 38, 39, 40], [41], [1, 13, 14, 15, 16, 42, 43]] Tryz.f171 = some F } := by
  refine ⟨?F, ?h⟩
  case h =>
    conv => lhs; cbv
theorem c171 : Cert 171 T171.1 := cert_of T171.2 Tryz.func171
-- (*suffrage/runoff.count).round$1
noncomputable def T172 : { F : AFunc // CT.func [[3], [0, 1, 4, 5, 6, 7, 8, 9]] Tryz.f172 = some F } := by
  refine ⟨?F, ?h⟩
  case h =>
    conv => lhs; cbv
theorem c172 : Cert 172 T172.1 := cert_of T172.2 Tryz.func172
-- slices.Contains[[]int,int]
noncomputable def T173 : { F : AFunc // CT.func [[4], [0, 1, 5, 6, 7, 8]] Tryz.f173 = some F } := by
  refine ⟨?F, ?h⟩
  case h =>
    conv => lhs; cbv
theorem c173 : Cert 173 T173.1 := cert_of T173.2 Tryz.func173
-- (*suffrage/runoff.count).round$2
noncomputable def T174 : { F : AFunc // CT.func [[3], [0, 1, 4, 5, 6, 7]] Tryz.f174 = some F } := by
  refine ⟨?F, ?h⟩
  case h =>
    conv => lhs; cbv
theorem c174 : Cert 174 T174.1 := cert_of T174.2 Tryz.func174
-- (*suffrage/choose.Count).Last
noncomputable def T175 : { F : AFunc // CT.func [[4], [6, 7, 8, 9, 10], [11, 12, 13, 14, 15], [0, 1, 5, 16, 17, 18, 19, 20, 21]] Tryz.f175 = some F } := by
  refine ⟨?F, ?h⟩
  case h =>
    conv => lhs; cbv
theorem c175 : Cert 175 T175.1 := cert_of T175.2 Tryz.func175
-- suffrage/choose.Least
noncomputable def T176 : { F : AFunc // CT.func [[1, 4], [0, 3, 5, 6, 7]] Tryz.f176 = some F } := by
  refine ⟨?F, ?h⟩
  case h =>
    conv => lhs; cbv
theorem c176 : Cert 176 T176.1 := cert_of T176.2 Tryz.func176
-- (*suffrage/runoff.count).round$3
noncomputable def T177 : { F : AFunc // CT.func [[3], [0, 1, 4, 5, 6, 7]] Tryz.f177 = some F } := by
  refine ⟨?F, ?h⟩
  case h =>
    conv => lhs; cbv
theorem c177 : Cert 177 T177.1 := cert_of T177.2 Tryz.func177
-- (*suffrage/runoff.count).round$4
noncomputable def T178 : { F : AFunc // CT.func [[3], [0, 1, 4, 5, 6]] Tryz.f178 = some F } := by
  refine ⟨?F, ?h⟩
  case h =>
    conv => lhs; cbv
theorem c178 : Cert 178 T178.1 := cert_of T178.2 Tryz.func178
-- suffrage/runoff.Firsts
noncomputable def T179 : { F : AFunc // CT.func [[0, 1, 4, 5, 6], [7, 8, 9, 10, 11, 12, 13], [2, 3, 14], [2, 3, 14, 15, 16, 17, 18, 19, 20], [21, 22]] Tryz.f179 = some F } := by
  refine ⟨?F, ?h⟩
  case h =>
    conv => lhs; cbv
theorem c179 : Cert 179 T179.1 := cert_of T179.2 Tryz.func179
-- suffrage/coombs.rounds$1
noncomputable def T180 : { F : AFunc // CT.func [[3], [0, 1, 4, 5, 6]] Tryz.f180 = some F } := by
  refine ⟨?F, ?h⟩
  case h =>
    conv => lhs; cbv
theorem c180 : Cert 180 T180.1 := cert_of T180.2 Tryz.func180
-- suffrage/quota.Droop
noncomputable def T181 : { F : AFunc // CT.func [[4, 5], [6, 7, 8], [0, 1, 9], [0, 1, 9, 10, 11, 12, 13, 14]] Tryz.f181 = some F } := by
  refine ⟨?F, ?h⟩
  case h =>
    conv => lhs; cbv
theorem c181 : Cert 181 T181.1 := cert_of T181.2 Tryz.func181
-- suffrage/profile.count
noncomputable def T182 : { F : AFunc // CT.func [[0, 5], [8, 9], [10], [1, 2, 11, 12], [2, 5, 11, 13], [], [17, 18, 19], [20, 21], [7, 22, 23, 24, 25, 26], [7, 22, 27], [1, 14, 15, 16, 17, 28]] Tryz.f182 = some F } := by
  refine ⟨?F, ?h⟩
  case h =>
    conv => lhs; cbv
theorem c182 : Cert 182 T182.1 := cert_of T182.2 Tryz.func182
-- suffrage/profile.Marked$1
noncomputable def T183 : { F : AFunc // CT.func [[0, 2], [1, 3, 4, 5, 6]] Tryz.f183 = some F } := by
  refine ⟨?F, ?h⟩
  case h =>
    conv => lhs; cbv
theorem c183 : Cert 183 T183.1 := cert_of T183.2 Tryz.func183
-- (*suffrage/gregory.count).had
def R_gregory_count_had_13 : AC := .ops true [⟨some 59, .mov (.t 2), none, []⟩,
  ⟨some 60, .mov (.t 8), none, []⟩,
  ⟨some 61, .mov (.t 9), none, []⟩,
  ⟨some 62, .mov (.t 2), none, []⟩,
  ⟨some 63, .mov (.t 8), none, []⟩,
  ⟨some 64, .ia 1 (.t 62) (.t 63), none, [3, 4]⟩,
  ⟨some 65, .load 1 true (.t 64), none, [5]⟩,
  ⟨some 66, .mov (.t 0), none, []⟩,
  ⟨some 67, .nilchk (.t 66), none, [7]⟩,
  ⟨some 68, .fa (.t 67) 4, none, [8]⟩,
  ⟨some 69, .load 1 true (.t 68), none, [9]⟩,
  ⟨some 70, .no, none, [2]⟩,
  ⟨some 71, .nilchk (.t 70), none, [11]⟩,
  ⟨some 72, .mov (.t 61), none, [2, 11, 12]⟩,
  ⟨some 73, .call (.meth (.t 72) [(183, 303), (242, 305)]) [.t 65, .t 69], none, [13, 6, 10]⟩,
  ⟨some 74, .ia 1 (.t 59) (.t 60), none, [0, 1, 0, 1, 2, 3, 4, 5, 6, 7, 8, 9, 10, 11, 12, 13, 14]⟩,
  ⟨none, .store 1 (.t 74) (.t 73), none, [15, 14, 14, 0, 1, 2, 3, 4, 5, 6, 7, 8, 9, 10, 11, 12, 13, 14]⟩] [9, 59, 60, 61, 62, 63, 64, 65, 66, 67, 68, 69, 70, 71, 72, 73, 74]
noncomputable def T184 : { F : AFunc // CT.func [[2, 3], [10, 11, 12, 13, 14, 15], [16, 17, 18], [], [22, 23, 24], [25, 26, 27, 28, 29, 30], [7], [5, 6, 31, 32, 33, 34, 35, 36, 37, 38, 39, 40, 41, 42], [5, 6, 31, 43], [19, 20, 21, 22, 44, 45, 46, 47, 48], [49, 50, 51], [], [55, 56, 57, 58], [9, 59, 60, 61, 62, 63, 64, 65, 66, 67, 68, 69, 70, 71, 72, 73, 74], [8, 75, 76, 77, 78, 79, 80], [81], [0, 52, 53, 54, 55, 82, 83, 84]] Tryz.f184 = some F } := FN _ Tryz.f184 85 1 [.t 2, .t 3] (PC.seq ⟨_, by conv => lhs; cbv⟩ (PC.seq ⟨_, by conv => lhs; cbv⟩ (PC.seq ⟨_, by conv => lhs; cbv⟩ (PC.seq ⟨_, by conv => lhs; cbv⟩ (PC.seq (PC.seq ⟨_, by conv => lhs; cbv⟩ (PC.block 2 (PC.loop (PC.seq ⟨_, by conv => lhs; cbv⟩ (PC.seq ⟨_, by conv => lhs; cbv⟩ (PC.seq (PC.block 3 (PC.seq ⟨_, by conv => lhs; cbv⟩ (PC.seq ⟨R_gregory_count_had_13, by kernel_rfl⟩ ⟨_, by conv => lhs; cbv⟩))) ⟨_, by conv => lhs; cbv⟩)))))) ⟨_, by conv => lhs; cbv⟩)))))
theorem c184 : Cert 184 T184.1 := cert_of T184.2 Tryz.func184
-- (*suffrage/gregory.count).round$1
noncomputable def T185 : { F : AFunc // CT.func [[3], [0, 1, 4, 5, 6, 7]] Tryz.f185 = some F } := by
  refine ⟨?F, ?h⟩
  case h =>
    conv => lhs; cbv
theorem c185 : Cert 185 T185.1 := cert_of T185.2 Tryz.func185
-- (*suffrage/gregory.count).in
def R_gregory_count_in_4 : AC := .ops false [⟨some 15, .mov (.t 4), none, []⟩,
  ⟨some 16, .call (.meth (.t 15) [(174, 186), (183, 304), (242, 306)]) [], none, []⟩] [4, 15]
noncomputable def T186 : { F : AFunc // CT.func [[], [0, 5, 6, 7], [], [11, 12, 13, 14], [4, 15], [3, 16, 17, 18, 19, 20], [3, 16, 21], [8, 9, 10, 11, 22]] Tryz.f186 = some F } := FN _ Tryz.f186 23 1 [.t 2] (PC.seq ⟨_, by conv => lhs; cbv⟩ (PC.seq (PC.seq ⟨_, by conv => lhs; cbv⟩ (PC.block 0 (PC.loop (PC.seq ⟨_, by conv => lhs; cbv⟩ (PC.seq ⟨_, by conv => lhs; cbv⟩ (PC.seq (PC.block 1 (PC.seq ⟨_, by conv => lhs; cbv⟩ (PC.seq ⟨R_gregory_count_in_4, by kernel_rfl⟩ ⟨_, by conv => lhs; cbv⟩))) ⟨_, by conv => lhs; cbv⟩)))))) ⟨_, by conv => lhs; cbv⟩))
theorem c186 : Cert 186 T186.1 := cert_of T186.2 Tryz.func186
-- suffrage/gregory.told
noncomputable def T187 : { F : AFunc // CT.func [[], [0], [], [10, 11, 12], [4, 6, 13, 14, 15, 16, 17], [5, 18, 19, 20, 21], [22], [7, 8, 9, 10, 23]] Tryz.f187 = some F } := by
  refine ⟨?F, ?h⟩
  case h =>
    conv => lhs; cbv
theorem c187 : Cert 187 T187.1 := cert_of T187.2 Tryz.func187
-- (*suffrage/gregory.count).elect
noncomputable def T188 : { F : AFunc // CT.func [[4, 5, 6, 7, 8, 9, 10, 11], [0, 1, 12, 13, 14, 15, 16, 17, 18, 19, 20, 21, 22, 23, 24, 25, 26, 27, 28, 29]] Tryz.f188 = some F } := by
  refine ⟨?F, ?h⟩
  case h =>
    conv => lhs; cbv
theorem c188 : Cert 188 T188.1 := cert_of T188.2 Tryz.func188
-- (*suffrage/gregory.count).pass
noncomputable def T189 : { F : AFunc // CT.func [[10, 11, 12], [], [16, 17, 18, 19], [20, 21, 22, 23, 24, 25], [8, 9, 26, 27, 28, 29, 30], [6, 7, 31, 32, 33, 34, 35, 36, 37, 38, 39, 40, 41, 42, 43, 44, 45, 46, 47, 48, 49], [6, 7, 31, 50]] Tryz.f189 = some F } := by
  refine ⟨?F, ?h⟩
  case h =>
    conv => lhs; cbv
theorem c189 : Cert 189 T189.1 := cert_of T189.2 Tryz.func189
-- (*suffrage/meek.count).elect
noncomputable def T190 : { F : AFunc // CT.func [[1, 5, 6, 7, 8, 9, 10], [11, 12, 13, 14, 15, 16, 17, 18, 19, 20, 21, 22, 23, 24, 25, 26, 27, 28], [29, 30, 31, 32, 33, 34, 35, 36, 37, 38, 39, 40], [0, 4, 41, 42, 43]] Tryz.f190 = some F } := by
  refine ⟨?F, ?h⟩
  case h =>
    conv => lhs; cbv
theorem c190 : Cert 190 T190.1 := cert_of T190.2 Tryz.func190
-- (*suffrage/meek.count).has
noncomputable def T191 : { F : AFunc // CT.func [[4], [0, 1, 5, 6, 7, 8, 9, 10, 11]] Tryz.f191 = some F } := by
  refine ⟨?F, ?h⟩
  case h =>
    conv => lhs; cbv
theorem c191 : Cert 191 T191.1 := cert_of T191.2 Tryz.func191
-- (*suffrage/meek.count).drops$1
noncomputable def T192 : { F : AFunc // CT.func [[3], [0, 1, 4, 5, 6, 7, 8, 9, 10, 11, 12, 13, 14, 15, 16]] Tryz.f192 = some F } := by
  refine ⟨?F, ?h⟩
  case h =>
    conv => lhs; cbv
theorem c192 : Cert 192 T192.1 := cert_of T192.2 Tryz.func192
-- (*suffrage/meek.count).leave
noncomputable def T193 : { F : AFunc // CT.func [[1], [0, 3, 4, 5, 6, 7, 8, 9, 10, 11, 12]] Tryz.f193 = some F } := by
  refine ⟨?F, ?h⟩
  case h =>
    conv => lhs; cbv
theorem c193 : Cert 193 T193.1 := cert_of T193.2 Tryz.func193
-- suffrage/meek.Keep
noncomputable def T194 : { F : AFunc // CT.func [[6, 7], [10, 11, 12, 13, 14, 15, 16, 17, 18, 19, 20, 21, 22, 23], [0, 1, 2, 24], [1, 2, 24, 25, 26, 27, 28, 29, 30, 31, 32, 33], [9, 34], [0, 8, 35], [0, 8, 35, 36, 37, 38]] Tryz.f194 = some F } := by
  refine ⟨?F, ?h⟩
  case h =>
    conv => lhs; cbv
theorem c194 : Cert 194 T194.1 := cert_of T194.2 Tryz.func194
-- suffrage/meek.parts
noncomputable def T195 : { F : AFunc // CT.func [[6], [], [0], [], [14, 15, 16], [10, 17, 18, 19, 20, 21, 22, 23, 24, 25], [8, 26, 27, 28, 29], [9, 30, 31, 32], [33], [1, 2, 11, 12, 13, 14, 34]] Tryz.f195 = some F } := by
  refine ⟨?F, ?h⟩
  case h =>
    conv => lhs; cbv
theorem c195 : Cert 195 T195.1 := cert_of T195.2 Tryz.func195
-- (*suffrage/meek.count).turn$1
noncomputable def T196 : { F : AFunc // CT.func [[0, 1, 2, 3, 6, 7, 8, 9, 10, 11, 12, 13, 14, 15, 16, 17, 18]] Tryz.f196 = some F } := by
  refine ⟨?F, ?h⟩
  case h =>
    conv => lhs; cbv
theorem c196 : Cert 196 T196.1 := cert_of T196.2 Tryz.func196
-- suffrage/meek.Quota
noncomputable def T197 : { F : AFunc // CT.func [[6, 7], [8, 9, 10, 11, 12, 13, 14, 15, 16, 17, 18, 19, 20, 21, 22, 23, 24, 25, 26, 27, 28, 29, 30], [0, 1, 2, 31], [0, 1, 2, 31, 32, 33, 34, 35, 36, 37, 38, 39]] Tryz.f197 = some F } := by
  refine ⟨?F, ?h⟩
  case h =>
    conv => lhs; cbv
theorem c197 : Cert 197 T197.1 := cert_of T197.2 Tryz.func197
-- suffrage/quota.Ratio
noncomputable def T198 : { F : AFunc // CT.func [[3], [4, 5, 6], [0, 7, 8], [0, 7, 9, 10, 11, 12]] Tryz.f198 = some F } := by
  refine ⟨?F, ?h⟩
  case h =>
    conv => lhs; cbv
theorem c198 : Cert 198 T198.1 := cert_of T198.2 Tryz.func198
end Go.Proofs.YtkpfhnicdlgjiaaGreat
