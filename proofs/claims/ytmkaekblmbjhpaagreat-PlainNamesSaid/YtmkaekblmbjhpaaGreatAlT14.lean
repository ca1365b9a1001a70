/- The functions in the abstract language, worked out by Lean. -/
import Derived.Test.YtmkaekblmbjhpaaGreatAlX
set_option linter.unusedVariables false
set_option maxHeartbeats 1000000
set_option maxRecDepth 100000
namespace Go.Proofs.YtmkaekblmbjhpaaGreat
-- suffrage/ratio.Add
noncomputable def T228 : { F : AFunc // CT.func [[0, 1, 5], [2, 3, 7, 8, 9], [6, 10, 11, 12, 13, 14, 15]] Tryz.f228 = some F } := by
  refine ⟨?F, ?h⟩
  case h =>
    conv => lhs; cbv
theorem c228 : Cert 228 T228.1 := cert_of T228.2 Tryz.func228
-- suffrage/ratio.Div
noncomputable def T229 : { F : AFunc // CT.func [[0, 1, 5], [2, 3, 7, 8, 9], [6, 10, 11, 12, 13, 14, 15]] Tryz.f229 = some F } := by
  refine ⟨?F, ?h⟩
  case h =>
    conv => lhs; cbv
theorem c229 : Cert 229 T229.1 := cert_of T229.2 Tryz.func229
-- suffrage/phragmen.cheapest$1
noncomputable def T230 : { F : AFunc // CT.func [[5], [0, 1, 2, 7, 8, 9, 10, 11, 12, 13, 14, 15, 16, 17], [6, 18]] Tryz.f230 = some F } := by
  refine ⟨?F, ?h⟩
  case h =>
    conv => lhs; cbv
theorem c230 : Cert 230 T230.1 := cert_of T230.2 Tryz.func230
-- slices.Sort[[]int,int]
noncomputable def T231 : { F : AFunc // CT.func [[3, 4], [0, 2, 5, 6, 7, 8, 9, 10]] Tryz.f231 = some F } := by
  refine ⟨?F, ?h⟩
  case h =>
    conv => lhs; cbv
theorem c231 : Cert 231 T231.1 := cert_of T231.2 Tryz.func231
-- suffrage/lists.votes
noncomputable def T232 : { F : AFunc // CT.func [[0, 2], [6, 7, 8], [1, 9], [], [13, 14, 15], [16, 17, 18], [5, 19, 20, 21, 22, 23, 24, 25, 26, 27, 28, 29, 30], [5, 19, 31, 32, 33, 34], [35], [10, 11, 12, 13, 36, 37]] Tryz.f232 = some F } := by
  refine ⟨?F, ?h⟩
  case h =>
    conv => lhs; cbv
theorem c232 : Cert 232 T232.1 := cert_of T232.2 Tryz.func232
-- suffrage/lists.best[suffrage/lists.quotient]
noncomputable def T233 : { F : AFunc // CT.func [[], [0], [], [13, 14, 15], [], [16, 17], [18, 19, 20, 21, 22, 23, 24, 25, 26, 27, 28], [18, 29], [30], [9, 30, 31], [8, 32, 33, 34, 35, 36], [8, 32, 37], [1, 2, 10, 11, 12, 13, 38]] Tryz.f233 = some F } := by
  refine ⟨?F, ?h⟩
  case h =>
    conv => lhs; cbv
theorem c233 : Cert 233 T233.1 := cert_of T233.2 Tryz.func233
-- (suffrage/lists.method).allocate$1
def R_lists_method_allocate_1_0 : AC := .ops false [⟨some 5, .alloc [.int .i64 0, .int .i64 0], none, []⟩] []
def R_lists_method_allocate_1_1 : AC := .ops true [⟨some 6, .load 1 true (.t 1), none, []⟩,
  ⟨some 7, .mov (.t 0), none, []⟩,
  ⟨some 8, .ia 1 (.t 6) (.t 7), none, [0, 1]⟩,
  ⟨some 9, .load 1 true (.t 8), none, [2]⟩,
  ⟨some 10, .fa (.t 2) 0, none, []⟩,
  ⟨some 11, .load 1 true (.t 10), none, [4]⟩,
  ⟨some 12, .load 1 true (.t 3), none, []⟩,
  ⟨some 13, .mov (.t 0), none, []⟩,
  ⟨some 14, .ia 1 (.t 12) (.t 13), none, [6, 7]⟩,
  ⟨some 15, .load 1 true (.t 14), none, [8]⟩,
  ⟨some 16, .call (.dyn (.t 11)) [.t 15], none, [5, 9]⟩,
  ⟨some 17, .build [.int .i64 0, .int .i64 0] [(0, 1, .t 9), (1, 1, .t 16)], none, [3, 10]⟩,
  ⟨none, .store 2 (.t 5) (.t 17), none, [11, 10, 0, 1, 2, 3, 4, 5, 6, 7, 8, 9, 10, 11]⟩] [0, 1, 2, 3, 6, 7, 8, 9, 10, 11, 12, 13, 14, 15, 16, 17]
def F_lists_method_allocate_1 : AFunc := { ntmps := 18, nargs := 4, kills := [[], [0, 1, 2, 3, 6, 7, 8, 9, 10, 11, 12, 13, 14, 15, 16, 17]], results := [.cell 5 2 false], body := (.seq R_lists_method_allocate_1_0 (.seq R_lists_method_allocate_1_1 .ret)) }
noncomputable def T234 : { F : AFunc // CT.func [[], [0, 1, 2, 3, 6, 7, 8, 9, 10, 11, 12, 13, 14, 15, 16, 17]] Tryz.f234 = some F } := ⟨F_lists_method_allocate_1, by kernel_rfl⟩
theorem c234 : Cert 234 T234.1 := cert_of T234.2 Tryz.func234
-- (suffrage/lists.method).allocate$2
def R_lists_method_allocate_2_0 : AC := .ops false [⟨some 2, .box (.t 0), none, []⟩,
  ⟨some 3, .box (.t 1), none, []⟩,
  ⟨some 4, .mov (.c (.int .i64 0)), none, []⟩] [0, 1, 4]
def R_lists_method_allocate_2_1 : AC := .ops false [⟨some 5, .fa (.t 2) 0, none, []⟩,
  ⟨some 6, .load 1 true (.t 5), none, []⟩,
  ⟨some 7, .fa (.t 3) 1, none, []⟩,
  ⟨some 8, .load 1 true (.t 7), none, []⟩,
  ⟨some 9, .bin .mul (.t 6) (.t 8), none, []⟩,
  ⟨some 10, .fa (.t 3) 0, none, []⟩,
  ⟨some 11, .load 1 true (.t 10), none, []⟩,
  ⟨some 12, .fa (.t 2) 1, none, []⟩,
  ⟨some 13, .load 1 true (.t 12), none, []⟩,
  ⟨some 14, .bin .mul (.t 11) (.t 13), none, []⟩,
  ⟨some 15, .call (.fn 113) [.t 9, .t 14], none, []⟩,
  ⟨some 4, .mov (.t 15), none, []⟩] [2, 3, 5, 6, 7, 8, 9, 10, 11, 12, 13, 14, 15]
def F_lists_method_allocate_2 : AFunc := { ntmps := 16, nargs := 2, kills := [[0, 1, 4], [2, 3, 5, 6, 7, 8, 9, 10, 11, 12, 13, 14, 15]], results := [.t 4], body := (.seq R_lists_method_allocate_2_0 (.seq R_lists_method_allocate_2_1 .ret)) }
noncomputable def T235 : { F : AFunc // CT.func [[0, 1, 4], [2, 3, 5, 6, 7, 8, 9, 10, 11, 12, 13, 14, 15]] Tryz.f235 = some F } := ⟨F_lists_method_allocate_2, by kernel_rfl⟩
theorem c235 : Cert 235 T235.1 := cert_of T235.2 Tryz.func235
-- slices.Repeat[[]int,int]
noncomputable def T236 : { F : AFunc // CT.func [[4], [9], [10, 11], [1, 10, 12, 13, 14, 15, 16, 17, 18, 19, 20], [5, 21, 22, 23, 24, 25], [26, 27], [6, 26, 28, 29, 30], [0, 31, 32, 33], [34, 35, 36], [37, 38, 39, 40, 41, 42, 43, 44, 45, 46], [7, 8, 37, 47]] Tryz.f236 = some F } := by
  refine ⟨?F, ?h⟩
  case h =>
    conv => lhs; cbv
theorem c236 : Cert 236 T236.1 := cert_of T236.2 Tryz.func236
-- suffrage/lists.best[int]
noncomputable def T237 : { F : AFunc // CT.func [[], [0], [], [13, 14, 15], [], [16, 17], [18, 19, 20, 21, 22, 23, 24, 25, 26, 27, 28], [18, 29], [30], [9, 30, 31], [8, 32, 33, 34, 35, 36], [8, 32, 37], [1, 2, 10, 11, 12, 13, 38]] Tryz.f237 = some F } := by
  refine ⟨?F, ?h⟩
  case h =>
    conv => lhs; cbv
theorem c237 : Cert 237 T237.1 := cert_of T237.2 Tryz.func237
-- suffrage/lists.remainders$1
noncomputable def T238 : { F : AFunc // CT.func [[3], [0, 1, 4, 5, 6, 7]] Tryz.f238 = some F } := by
  refine ⟨?F, ?h⟩
  case h =>
    conv => lhs; cbv
theorem c238 : Cert 238 T238.1 := cert_of T238.2 Tryz.func238
-- suffrage/lists.remainders$2
noncomputable def T239 : { F : AFunc // CT.func [[3], [0, 1, 4, 5, 6]] Tryz.f239 = some F } := by
  refine ⟨?F, ?h⟩
  case h =>
    conv => lhs; cbv
theorem c239 : Cert 239 T239.1 := cert_of T239.2 Tryz.func239
-- math/bits.Div32
noncomputable def T240 : { F : AFunc // CT.func [[6, 7], [9, 10, 11, 12, 13, 14], [15, 16], [0, 1, 15, 17, 18, 19, 20, 21, 22], [2, 8, 23, 24, 25, 26, 27, 28, 29, 30, 31, 32]] Tryz.f240 = some F } := by
  refine ⟨?F, ?h⟩
  case h =>
    conv => lhs; cbv
theorem c240 : Cert 240 T240.1 := cert_of T240.2 Tryz.func240
-- math/bits.LeadingZeros32
noncomputable def T241 : { F : AFunc // CT.func [[2], [0, 3, 4, 5]] Tryz.f241 = some F } := by
  refine ⟨?F, ?h⟩
  case h =>
    conv => lhs; cbv
theorem c241 : Cert 241 T241.1 := cert_of T241.2 Tryz.func241
-- suffrage/nat.shifted
noncomputable def T242 : { F : AFunc // CT.func [[4], [7, 8, 9, 10], [11, 12, 13], [0, 14, 15], [16], [18, 19, 28], [17, 20, 21, 22, 23, 24, 25, 26], [27], [28, 29, 30, 31, 32, 33, 34, 35, 36, 37, 38, 39, 40, 41, 42, 43, 44], [1, 5, 6, 17, 45]] Tryz.f242 = some F } := by
  refine ⟨?F, ?h⟩
  case h =>
    conv => lhs; cbv
theorem c242 : Cert 242 T242.1 := cert_of T242.2 Tryz.func242
-- suffrage/nat.guess
def R_nat_guess_0 : AC := .ops false [⟨some 4, .mov (.c (.int .u64 0)), none, []⟩] [4]
def R_nat_guess_1 : AC := .ops false [⟨some 9, .mov (.t 1), none, []⟩,
  ⟨some 10, .len (.t 9), none, []⟩,
  ⟨some 5, .mov (.t 10), none, []⟩] [9, 10]
def R_nat_guess_2 : AC := .ops true [⟨some 11, .mov (.t 0), none, []⟩,
  ⟨some 12, .mov (.t 5), none, []⟩,
  ⟨some 13, .ia 1 (.t 11) (.t 12), none, [0, 1]⟩,
  ⟨some 14, .load 1 true (.t 13), none, [2]⟩,
  ⟨some 15, .conv .u64 (.t 14), none, [3]⟩,
  ⟨some 16, .bin .shl (.t 15) (.c (.int .u64 32)), none, [4]⟩,
  ⟨some 17, .mov (.t 0), none, []⟩,
  ⟨some 18, .mov (.t 5), none, []⟩,
  ⟨some 19, .bin .sub (.t 18) (.c (.int .i64 1)), none, [7]⟩,
  ⟨some 20, .ia 1 (.t 17) (.t 19), none, [6, 8]⟩,
  ⟨some 21, .load 1 true (.t 20), none, [9]⟩,
  ⟨some 22, .conv .u64 (.t 21), none, [10]⟩,
  ⟨some 23, .bin .or (.t 16) (.t 22), none, [5, 11]⟩,
  ⟨some 6, .mov (.t 23), none, [12, 0, 1, 2, 3, 4, 5, 6, 7, 8, 9, 10, 11, 12]⟩] [11, 12, 13, 14, 15, 16, 17, 18, 19, 20, 21, 22, 23]
def R_nat_guess_3 : AC := .ops true [⟨some 24, .mov (.t 6), none, []⟩,
  ⟨some 25, .mov (.t 1), none, []⟩,
  ⟨some 26, .mov (.t 5), none, []⟩,
  ⟨some 27, .bin .sub (.t 26) (.c (.int .i64 1)), none, [2]⟩,
  ⟨some 28, .ia 1 (.t 25) (.t 27), none, [1, 3]⟩,
  ⟨some 29, .load 1 true (.t 28), none, [4]⟩,
  ⟨some 30, .conv .u64 (.t 29), none, [5]⟩,
  ⟨some 31, .bin .quo (.t 24) (.t 30), none, [0, 6]⟩,
  ⟨some 32, .mov (.t 6), none, []⟩,
  ⟨some 33, .mov (.t 1), none, []⟩,
  ⟨some 34, .mov (.t 5), none, []⟩,
  ⟨some 35, .bin .sub (.t 34) (.c (.int .i64 1)), none, [10]⟩,
  ⟨some 36, .ia 1 (.t 33) (.t 35), none, [9, 11]⟩,
  ⟨some 37, .load 1 true (.t 36), none, [12]⟩,
  ⟨some 38, .conv .u64 (.t 37), none, [13]⟩,
  ⟨some 39, .bin .rem (.t 32) (.t 38), none, [8, 14]⟩,
  ⟨some 7, .mov (.t 31), none, [7, 0, 1, 2, 3, 4, 5, 6, 7]⟩,
  ⟨some 8, .mov (.t 39), none, [15, 16, 0, 1, 2, 3, 4, 5, 6, 7, 8, 9, 10, 11, 12, 13, 14, 15, 16]⟩] [6, 24, 25, 26, 27, 28, 29, 30, 31, 32, 33, 34, 35, 36, 37, 38, 39]
def R_nat_guess_4 : AC := .ops true [⟨some 40, .mov (.t 7), none, []⟩,
  ⟨some 41, .bin .shr (.t 40) (.c (.int .u64 32)), none, [0]⟩,
  ⟨some 42, .bin .neq (.t 41) (.c (.int .u64 0)), none, [1]⟩,
  ⟨some 43, .mov (.t 42), none, [2]⟩,
  ⟨some 44, .mov (.t 7), some (43, false), [3]⟩,
  ⟨some 45, .mov (.t 1), some (43, false), [3]⟩,
  ⟨some 46, .mov (.t 5), some (43, false), [3]⟩,
  ⟨some 47, .bin .sub (.t 46) (.c (.int .i64 2)), some (43, false), [6, 3]⟩,
  ⟨some 48, .ia 1 (.t 45) (.t 47), some (43, false), [5, 7, 3]⟩,
  ⟨some 49, .load 1 true (.t 48), some (43, false), [8, 3]⟩,
  ⟨some 50, .conv .u64 (.t 49), some (43, false), [9, 3]⟩,
  ⟨some 51, .bin .mul (.t 44) (.t 50), some (43, false), [4, 10, 3]⟩,
  ⟨some 52, .mov (.t 8), some (43, false), [3]⟩,
  ⟨some 53, .bin .shl (.t 52) (.c (.int .u64 32)), some (43, false), [12, 3]⟩,
  ⟨some 54, .mov (.t 0), some (43, false), [3]⟩,
  ⟨some 55, .mov (.t 5), some (43, false), [3]⟩,
  ⟨some 56, .bin .sub (.t 55) (.c (.int .i64 2)), some (43, false), [15, 3]⟩,
  ⟨some 57, .ia 1 (.t 54) (.t 56), some (43, false), [14, 16, 3]⟩,
  ⟨some 58, .load 1 true (.t 57), some (43, false), [17, 3]⟩,
  ⟨some 59, .conv .u64 (.t 58), some (43, false), [18, 3]⟩,
  ⟨some 60, .bin .or (.t 53) (.t 59), some (43, false), [13, 19, 3]⟩,
  ⟨some 61, .bin .gtr (.t 51) (.t 60), some (43, false), [11, 20, 3]⟩,
  ⟨some 62, .pick (.t 43) (.c (.bool true)) (.t 61), none, [3, 21]⟩] [40, 41, 42, 43, 44, 45, 46, 47, 48, 49, 50, 51, 52, 53, 54, 55, 56, 57, 58, 59, 60, 61, 75]
def R_nat_guess_5 : AC := .ops false [⟨some 63, .mov (.t 7), none, []⟩,
  ⟨some 64, .bin .sub (.t 63) (.c (.int .u64 1)), none, []⟩,
  ⟨some 7, .mov (.t 64), none, []⟩] [62, 63, 64]
def R_nat_guess_6 : AC := .ops false [⟨some 65, .mov (.t 8), none, []⟩,
  ⟨some 66, .mov (.t 1), none, []⟩,
  ⟨some 67, .mov (.t 5), none, []⟩,
  ⟨some 68, .bin .sub (.t 67) (.c (.int .i64 1)), none, []⟩,
  ⟨some 69, .ia 1 (.t 66) (.t 68), none, []⟩,
  ⟨some 70, .load 1 true (.t 69), none, []⟩,
  ⟨some 71, .conv .u64 (.t 70), none, []⟩,
  ⟨some 72, .bin .add (.t 65) (.t 71), none, []⟩,
  ⟨some 8, .mov (.t 72), none, []⟩] [65, 66, 67, 68, 69, 70, 71, 72]
def R_nat_guess_7 : AC := .ops false [⟨some 73, .mov (.t 8), none, []⟩,
  ⟨some 74, .bin .shr (.t 73) (.c (.int .u64 32)), none, []⟩,
  ⟨some 75, .bin .neq (.t 74) (.c (.int .u64 0)), none, []⟩] [73, 74]
def L_nat_guess_1 : AC := (.seq (.seq R_nat_guess_4 (.cond (.t 62) .skip (.exit 0))) (.block 1 (.seq R_nat_guess_5 (.seq R_nat_guess_6 (.seq R_nat_guess_7 (.cond (.t 75) (.exit 0) .skip))))))
def R_nat_guess_8 : AC := .ops false [⟨some 76, .mov (.t 7), none, []⟩,
  ⟨some 4, .mov (.t 76), none, []⟩] [0, 1, 5, 7, 8, 62, 75, 76]
def F_nat_guess : AFunc := { ntmps := 77, nargs := 2, kills := [[4], [9, 10], [11, 12, 13, 14, 15, 16, 17, 18, 19, 20, 21, 22, 23], [6, 24, 25, 26, 27, 28, 29, 30, 31, 32, 33, 34, 35, 36, 37, 38, 39], [40, 41, 42, 43, 44, 45, 46, 47, 48, 49, 50, 51, 52, 53, 54, 55, 56, 57, 58, 59, 60, 61, 75], [62, 63, 64], [65, 66, 67, 68, 69, 70, 71, 72], [73, 74], [0, 1, 5, 7, 8, 62, 75, 76]], results := [.t 4], body := (.seq R_nat_guess_0 (.seq R_nat_guess_1 (.seq R_nat_guess_2 (.seq R_nat_guess_3 (.seq (.block 0 (.loop L_nat_guess_1)) (.seq R_nat_guess_8 .ret)))))) }
noncomputable def T243 : { F : AFunc // CT.func [[4], [9, 10], [11, 12, 13, 14, 15, 16, 17, 18, 19, 20, 21, 22, 23], [6, 24, 25, 26, 27, 28, 29, 30, 31, 32, 33, 34, 35, 36, 37, 38, 39], [40, 41, 42, 43, 44, 45, 46, 47, 48, 49, 50, 51, 52, 53, 54, 55, 56, 57, 58, 59, 60, 61, 75], [62, 63, 64], [65, 66, 67, 68, 69, 70, 71, 72], [73, 74], [0, 1, 5, 7, 8, 62, 75, 76]] Tryz.f243 = some F } := ⟨F_nat_guess, by kernel_rfl⟩
theorem c243 : Cert 243 T243.1 := cert_of T243.2 Tryz.func243
end Go.Proofs.YtmkaekblmbjhpaaGreat
