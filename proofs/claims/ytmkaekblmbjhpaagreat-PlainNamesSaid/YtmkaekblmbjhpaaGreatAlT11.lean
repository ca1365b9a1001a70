/- The functions in the abstract language, worked out by Lean. -/
import Derived.Test.YtmkaekblmbjhpaaGreatAlX
set_option linter.unusedVariables false
set_option maxHeartbeats 1000000
set_option maxRecDepth 100000
namespace Go.Proofs.YtmkaekblmbjhpaaGreat
-- slices.rotateRight[suffrage/api.Row]
noncomputable def T180 : { F : AFunc // CT.func [[0, 1, 4, 5, 6, 7, 8, 9]] Tryz.f180 = some F } := by
  refine ⟨?F, ?h⟩
  case h =>
    conv => lhs; cbv
theorem c180 : Cert 180 T180.1 := cert_of T180.2 Tryz.func180
-- cmp.isNaN[int]
noncomputable def T181 : { F : AFunc // CT.func [[2], [0, 3, 4, 5]] Tryz.f181 = some F } := by
  refine ⟨?F, ?h⟩
  case h =>
    conv => lhs; cbv
theorem c181 : Cert 181 T181.1 := cert_of T181.2 Tryz.func181
-- slices.IsSorted[[]int,int]
noncomputable def T182 : { F : AFunc // CT.func [[2], [4, 5, 6], [7], [9, 10, 20], [8, 11, 12, 13, 14, 15, 16, 17, 18, 19], [0, 3, 20], [0, 3, 8]] Tryz.f182 = some F } := by
  refine ⟨?F, ?h⟩
  case h =>
    conv => lhs; cbv
theorem c182 : Cert 182 T182.1 := cert_of T182.2 Tryz.func182
-- (*suffrage/choose.Count).One
noncomputable def T183 : { F : AFunc // CT.func [[], [3, 9, 10, 11, 12, 13, 14, 15, 16], [1, 2, 17, 18, 19, 20, 21, 22, 23, 24, 25, 26, 27, 28, 29, 30, 31, 32], [0, 33, 34, 35, 36]] Tryz.f183 = some F } := by
  refine ⟨?F, ?h⟩
  case h =>
    conv => lhs; cbv
theorem c183 : Cert 183 T183.1 := cert_of T183.2 Tryz.func183
-- suffrage/pairs.within
noncomputable def T184 : { F : AFunc // CT.func [[4], [0, 1, 5, 6, 7, 8, 9, 10, 11]] Tryz.f184 = some F } := by
  refine ⟨?F, ?h⟩
  case h =>
    conv => lhs; cbv
theorem c184 : Cert 184 T184.1 := cert_of T184.2 Tryz.func184
-- suffrage/pairs.Right
def R_pairs_Right_0 : AC := .ops false [⟨some 2, .box (.t 0), none, []⟩,
  ⟨some 4, .mov (.c (.bool false)), none, []⟩] [0, 4]
def R_pairs_Right_1 : AC := .ops false [⟨some 10, .mov (.t 1), none, []⟩,
  ⟨some 11, .bin .lss (.t 10) (.c (.int .i64 1)), none, []⟩,
  ⟨some 12, .mov (.t 11), none, []⟩,
  ⟨some 13, .mov (.t 1), some (12, false), []⟩,
  ⟨some 14, .bin .gtr (.t 13) (.c (.int .i64 10)), some (12, false), []⟩,
  ⟨some 15, .pick (.t 12) (.c (.bool true)) (.t 14), none, []⟩] [10, 11, 12, 13, 14]
def R_pairs_Right_2 : AC := .ops false [⟨some 4, .mov (.c (.bool false)), none, []⟩] [1, 2, 15]
def R_pairs_Right_3 : AC := .ops false [⟨some 16, .load 100 false (.t 2), none, []⟩,
  ⟨some 5, .alloc [.int .i64 0, .int .i64 0, .int .i64 0, .int .i64 0, .int .i64 0, .int .i64 0, .int .i64 0, .int .i64 0, .int .i64 0, .int .i64 0, .int .i64 0, .int .i64 0, .int .i64 0, .int .i64 0, .int .i64 0, .int .i64 0, .int .i64 0, .int .i64 0, .int .i64 0, .int .i64 0, .int .i64 0, .int .i64 0, .int .i64 0, .int .i64 0, .int .i64 0, .int .i64 0, .int .i64 0, .int .i64 0, .int .i64 0, .int .i64 0, .int .i64 0, .int .i64 0, .int .i64 0, .int .i64 0, .int .i64 0, .int .i64 0, .int .i64 0, .int .i64 0, .int .i64 0, .int .i64 0, .int .i64 0, .int .i64 0, .int .i64 0, .int .i64 0, .int .i64 0, .int .i64 0, .int .i64 0, .int .i64 0, .int .i64 0, .int .i64 0, .int .i64 0, .int .i64 0, .int .i64 0, .int .i64 0, .int .i64 0, .int .i64 0, .int .i64 0, .int .i64 0, .int .i64 0, .int .i64 0, .int .i64 0, .int .i64 0, .int .i64 0, .int .i64 0, .int .i64 0, .int .i64 0, .int .i64 0, .int .i64 0, .int .i64 0, .int .i64 0, .int .i64 0, .int .i64 0, .int .i64 0, .int .i64 0, .int .i64 0, .int .i64 0, .int .i64 0, .int .i64 0, .int .i64 0, .int .i64 0, .int .i64 0, .int .i64 0, .int .i64 0, .int .i64 0, .int .i64 0, .int .i64 0, .int .i64 0, .int .i64 0, .int .i64 0, .int .i64 0, .int .i64 0, .int .i64 0, .int .i64 0, .int .i64 0, .int .i64 0, .int .i64 0, .int .i64 0, .int .i64 0, .int .i64 0, .int .i64 0], none, []⟩,
  ⟨none, .store 100 (.t 5) (.t 16), none, []⟩] [15, 16]
def R_pairs_Right_4 : AC := .ops false [⟨some 17, .load 100 false (.t 2), none, []⟩,
  ⟨some 18, .mov (.c (.int .i64 0)), none, []⟩] []
def R_pairs_Right_5 : AC := .ops false [⟨some 19, .bin .lss (.t 18) (.c (.int .i64 10)), none, []⟩] []
def R_pairs_Right_6 : AC := .ops false [⟨some 20, .mov (.t 18), none, []⟩,
  ⟨some 21, .idx 10 10 false (.t 17) (.t 18), none, []⟩,
  ⟨some 7, .alloc [.int .i64 0, .int .i64 0, .int .i64 0, .int .i64 0, .int .i64 0, .int .i64 0, .int .i64 0, .int .i64 0, .int .i64 0, .int .i64 0], none, []⟩,
  ⟨some 6, .mov (.t 20), none, []⟩,
  ⟨none, .store 10 (.t 7) (.t 21), none, []⟩] [19, 20, 21]
def R_pairs_Right_7 : AC := .ops false [⟨some 22, .load 10 false (.t 7), none, []⟩,
  ⟨some 23, .mov (.c (.int .i64 0)), none, []⟩] [7]
def R_pairs_Right_8 : AC := .ops false [⟨some 24, .bin .lss (.t 23) (.c (.int .i64 10)), none, []⟩] []
def R_pairs_Right_9 : AC := .ops false [⟨some 25, .mov (.t 23), none, []⟩,
  ⟨some 26, .idx 1 10 true (.t 22) (.t 23), none, []⟩,
  ⟨some 8, .mov (.t 25), none, []⟩,
  ⟨some 9, .mov (.t 26), none, []⟩] [24, 25, 26]
def R_pairs_Right_10 : AC := .ops false [⟨some 27, .mov (.t 9), none, []⟩,
  ⟨some 28, .bin .lss (.t 27) (.c (.int .i64 0)), none, []⟩,
  ⟨some 29, .mov (.t 28), none, []⟩,
  ⟨some 30, .mov (.t 9), some (29, false), []⟩,
  ⟨some 31, .mov (.t 8), some (29, false), []⟩,
  ⟨some 32, .mov (.t 6), some (29, false), []⟩,
  ⟨some 33, .iaa 10 10 (.t 2) (.t 31), some (29, false), []⟩,
  ⟨some 34, .iaa 1 10 (.t 33) (.t 32), some (29, false), []⟩,
  ⟨some 35, .load 1 true (.t 34), some (29, false), []⟩,
  ⟨some 36, .max [.t 35, .c (.int .i64 0)], some (29, false), []⟩,
  ⟨some 37, .min [.t 36, .c (.int .i64 1000000)], some (29, false), []⟩,
  ⟨some 38, .bin .sub (.c (.int .i64 1000000)) (.t 37), some (29, false), []⟩,
  ⟨some 39, .bin .gtr (.t 30) (.t 38), some (29, false), []⟩,
  ⟨some 40, .pick (.t 29) (.c (.bool true)) (.t 39), none, []⟩] [9, 27, 28, 29, 30, 31, 32, 33, 34, 35, 36, 37, 38, 39]
def R_pairs_Right_11 : AC := .ops false [⟨some 4, .mov (.c (.bool false)), none, []⟩] [1, 2, 5, 6, 8, 17, 18, 22, 23, 40]
def R_pairs_Right_12 : AC := .ops false [⟨some 41, .mov (.t 6), none, []⟩,
  ⟨some 42, .mov (.t 8), none, []⟩,
  ⟨some 43, .bin .eql (.t 41) (.t 42), none, []⟩,
  ⟨some 44, .mov (.t 43), none, []⟩,
  ⟨some 45, .mov (.t 6), some (44, false), []⟩,
  ⟨some 46, .mov (.t 1), some (44, false), []⟩,
  ⟨some 47, .call (.fn 184) [.t 45, .t 46], some (44, false), []⟩,
  ⟨some 48, .un .not (.t 47), some (44, false), []⟩,
  ⟨some 49, .pick (.t 44) (.c (.bool true)) (.t 48), none, []⟩,
  ⟨some 50, .mov (.t 49), none, []⟩,
  ⟨some 51, .mov (.t 8), some (50, false), []⟩,
  ⟨some 52, .mov (.t 1), some (50, false), []⟩,
  ⟨some 53, .call (.fn 184) [.t 51, .t 52], some (50, false), []⟩,
  ⟨some 54, .un .not (.t 53), some (50, false), []⟩,
  ⟨some 55, .pick (.t 50) (.c (.bool true)) (.t 54), none, []⟩] [40, 41, 42, 43, 44, 45, 46, 47, 48, 49, 50, 51, 52, 53, 54]
def R_pairs_Right_13 : AC := .ops false [⟨some 56, .mov (.t 6), none, []⟩,
  ⟨some 57, .mov (.t 8), none, []⟩,
  ⟨some 58, .iaa 10 10 (.t 5) (.t 56), none, []⟩,
  ⟨some 59, .iaa 1 10 (.t 58) (.t 57), none, []⟩,
  ⟨none, .store 1 (.t 59) (.c (.int .i64 0)), none, []⟩] [8, 55, 56, 57, 58, 59]
def R_pairs_Right_14 : AC := .ops false [⟨some 60, .bin .add (.t 23) (.c (.int .i64 1)), none, []⟩,
  ⟨some 23, .mov (.t 60), none, []⟩] [8, 55, 60]
def L_pairs_Right_1 : AC := (.seq R_pairs_Right_8 (.seq (.cond (.t 24) .skip (.exit 2)) (.seq (.block 3 (.seq R_pairs_Right_9 (.seq (.seq R_pairs_Right_10 (.cond (.t 40) (.seq R_pairs_Right_11 .ret) .skip)) (.seq R_pairs_Right_12 (.cond (.t 55) R_pairs_Right_13 .skip))))) R_pairs_Right_14)))
def R_pairs_Right_15 : AC := .ops false [⟨some 61, .bin .add (.t 18) (.c (.int .i64 1)), none, []⟩,
  ⟨some 18, .mov (.t 61), none, []⟩] [6, 22, 23, 24, 61]
def L_pairs_Right_2 : AC := (.seq R_pairs_Right_5 (.seq (.cond (.t 19) .skip (.exit 0)) (.seq (.block 1 (.seq R_pairs_Right_6 (.seq R_pairs_Right_7 (.block 2 (.loop L_pairs_Right_1))))) R_pairs_Right_15)))
def R_pairs_Right_16 : AC := .ops false [⟨some 62, .load 100 false (.t 5), none, []⟩,
  ⟨some 63, .load 100 false (.t 2), none, []⟩,
  ⟨some 64, .acmp (.arr 10 10 false (.arr 10 1 true (.leaf 0))) false (.t 62) (.t 63), none, []⟩,
  ⟨some 4, .mov (.t 64), none, []⟩] [1, 2, 5, 17, 18, 19, 62, 63, 64]
def F_pairs_Right : AFunc := { ntmps := 65, nargs := 2, kills := [[0, 4], [10, 11, 12, 13, 14], [1, 2, 15], [15, 16], [], [], [19, 20, 21], [7], [], [24, 25, 26], [9, 27, 28, 29, 30, 31, 32, 33, 34, 35, 36, 37, 38, 39], [1, 2, 5, 6, 8, 17, 18, 22, 23, 40], [40, 41, 42, 43, 44, 45, 46, 47, 48, 49, 50, 51, 52, 53, 54], [8, 55, 56, 57, 58, 59], [8, 55, 60], [6, 22, 23, 24, 61], [1, 2, 5, 17, 18, 19, 62, 63, 64]], results := [.t 4], body := (.seq R_pairs_Right_0 (.seq (.seq R_pairs_Right_1 (.cond (.t 15) (.seq R_pairs_Right_2 .ret) .skip)) (.seq R_pairs_Right_3 (.seq (.seq R_pairs_Right_4 (.block 0 (.loop L_pairs_Right_2))) (.seq R_pairs_Right_16 .ret))))) }
noncomputable def T185 : { F : AFunc // CT.func [[0, 4], [10, 11, 12, 13, 14], [1, 2, 15], [15, 16], [], [], [19, 20, 21], [7], [], [24, 25, 26], [9, 27, 28, 29, 30, 31, 32, 33, 34, 35, 36, 37, 38, 39], [1, 2, 5, 6, 8, 17, 18, 22, 23, 40], [40, 41, 42, 43, 44, 45, 46, 47, 48, 49, 50, 51, 52, 53, 54], [8, 55, 56, 57, 58, 59], [8, 55, 60], [6, 22, 23, 24, 61], [1, 2, 5, 17, 18, 19, 62, 63, 64]] Tryz.f185 = some F } := ⟨F_pairs_Right, by kernel_rfl⟩
theorem c185 : Cert 185 T185.1 := cert_of T185.2 Tryz.func185
-- suffrage/condorcet.count$1
noncomputable def T186 : { F : AFunc // CT.func [[4], [0, 1, 2, 5, 6, 7, 8]] Tryz.f186 = some F } := by
  refine ⟨?F, ?h⟩
  case h =>
    conv => lhs; cbv
theorem c186 : Cert 186 T186.1 := cert_of T186.2 Tryz.func186
-- suffrage/choose.Lot
noncomputable def T187 : { F : AFunc // CT.func [[4], [0, 8, 9, 10], [], [], [14, 15, 16, 17], [6, 7, 18, 19], [1, 5, 11, 12, 13, 20], [20, 21], [1, 5, 11, 12, 13, 14, 22, 23, 24, 25]] Tryz.f187 = some F } := by
  refine ⟨?F, ?h⟩
  case h =>
    conv => lhs; cbv
theorem c187 : Cert 187 T187.1 := cert_of T187.2 Tryz.func187
-- suffrage/ballot.Prefers
def R_ballot_Prefers_0 : AC := .ops false [⟨some 3, .box (.t 0), none, []⟩,
  ⟨some 6, .mov (.c (.bool false)), none, []⟩] [0, 6]
def R_ballot_Prefers_1 : AC := .ops false [⟨some 9, .mov (.t 1), none, []⟩,
  ⟨some 10, .bin .lss (.t 9) (.c (.int .i64 0)), none, []⟩,
  ⟨some 11, .mov (.t 10), none, []⟩,
  ⟨some 12, .mov (.t 2), some (11, false), []⟩,
  ⟨some 13, .bin .lss (.t 12) (.c (.int .i64 0)), some (11, false), []⟩,
  ⟨some 14, .pick (.t 11) (.c (.bool true)) (.t 13), none, []⟩] [9, 10, 11, 12, 13]
def R_ballot_Prefers_2 : AC := .ops false [⟨some 6, .mov (.c (.bool false)), none, []⟩] [1, 2, 3, 14]
def R_ballot_Prefers_3 : AC := .ops true [⟨some 15, .fa (.t 3) 1, none, []⟩,
  ⟨some 16, .load 1 true (.t 15), none, [0]⟩,
  ⟨some 17, .mov (.t 1), none, []⟩,
  ⟨some 18, .call (.fn 258) [.t 16, .t 17], none, [1, 2]⟩,
  ⟨some 19, .fa (.t 3) 1, none, []⟩,
  ⟨some 20, .load 1 true (.t 19), none, [4]⟩,
  ⟨some 21, .mov (.t 2), none, []⟩,
  ⟨some 22, .call (.fn 258) [.t 20, .t 21], none, [5, 6, 3]⟩,
  ⟨some 7, .mov (.t 18), none, [3, 7, 0, 1, 2, 3]⟩,
  ⟨some 8, .mov (.t 22), none, [7, 8, 0, 1, 2, 3, 4, 5, 6, 7, 8]⟩] [14, 15, 16, 17, 18, 19, 20, 21, 22]
def R_ballot_Prefers_4 : AC := .ops false [⟨some 23, .fa (.t 3) 0, none, []⟩,
  ⟨some 24, .load 1 true (.t 23), none, []⟩] [23]
def R_ballot_Prefers_5 : AC := .ops false [⟨some 26, .bin .eql (.t 24) (.c (.int .u8 1)), none, []⟩,
  ⟨some 25, .mov (.t 26), none, []⟩] [26]
def R_ballot_Prefers_6 : AC := .ops false [⟨some 27, .mov (.t 7), none, []⟩,
  ⟨some 28, .bin .geq (.t 27) (.c (.int .i64 0)), none, []⟩,
  ⟨some 29, .mov (.t 28), none, []⟩,
  ⟨some 30, .mov (.t 8), some (29, true), []⟩,
  ⟨some 31, .bin .lss (.t 30) (.c (.int .i64 0)), some (29, true), []⟩,
  ⟨some 32, .mov (.t 31), some (29, true), []⟩,
  ⟨some 33, .mov (.t 7), some (32, false), []⟩,
  ⟨some 34, .mov (.t 8), some (32, false), []⟩,
  ⟨some 35, .bin .lss (.t 33) (.t 34), some (32, false), []⟩,
  ⟨some 36, .pick (.t 32) (.c (.bool true)) (.t 35), some (29, true), []⟩,
  ⟨some 37, .pick (.t 29) (.t 36) (.c (.bool false)), none, []⟩,
  ⟨some 6, .mov (.t 37), none, []⟩] [1, 2, 3, 7, 8, 24, 25, 27, 28, 29, 30, 31, 32, 33, 34, 35, 36, 37]
def R_ballot_Prefers_7 : AC := .ops false [⟨some 39, .bin .eql (.t 24) (.c (.int .u8 2)), none, []⟩,
  ⟨some 38, .mov (.t 39), none, []⟩] [25, 39]
def R_ballot_Prefers_8 : AC := .ops false [⟨some 40, .mov (.t 7), none, []⟩,
  ⟨some 41, .bin .geq (.t 40) (.c (.int .i64 0)), none, []⟩,
  ⟨some 42, .mov (.t 41), none, []⟩,
  ⟨some 43, .mov (.t 8), some (42, true), []⟩,
  ⟨some 44, .bin .lss (.t 43) (.c (.int .i64 0)), some (42, true), []⟩,
  ⟨some 45, .pick (.t 42) (.t 44) (.c (.bool false)), none, []⟩,
  ⟨some 6, .mov (.t 45), none, []⟩] [1, 2, 3, 7, 8, 24, 38, 40, 41, 42, 43, 44, 45]
def R_ballot_Prefers_9 : AC := .ops false [⟨some 47, .bin .eql (.t 24) (.c (.int .u8 3)), none, []⟩,
  ⟨some 46, .mov (.t 47), none, []⟩] [7, 8, 24, 38, 47]
def R_ballot_Prefers_10 : AC := .ops true [⟨some 48, .mov (.t 1), none, []⟩,
  ⟨some 49, .fa (.t 3) 1, none, []⟩,
  ⟨some 50, .load 1 true (.t 49), none, [1]⟩,
  ⟨some 51, .len (.t 50), none, [2]⟩,
  ⟨some 52, .bin .lss (.t 48) (.t 51), none, [0, 3]⟩,
  ⟨some 53, .mov (.t 52), none, [4]⟩,
  ⟨some 54, .mov (.t 2), some (53, true), [5]⟩,
  ⟨some 55, .fa (.t 3) 1, some (53, true), [5]⟩,
  ⟨some 56, .load 1 true (.t 55), some (53, true), [7, 5]⟩,
  ⟨some 57, .len (.t 56), some (53, true), [8, 5]⟩,
  ⟨some 58, .bin .lss (.t 54) (.t 57), some (53, true), [6, 9, 5]⟩,
  ⟨some 59, .pick (.t 53) (.t 58) (.c (.bool false)), none, [5, 10]⟩,
  ⟨some 60, .mov (.t 59), none, [11, 5]⟩,
  ⟨some 61, .fa (.t 3) 1, some (60, true), [12]⟩,
  ⟨some 62, .load 1 true (.t 61), some (60, true), [13, 12]⟩,
  ⟨some 63, .mov (.t 1), some (60, true), [12]⟩,
  ⟨some 64, .ia 1 (.t 62) (.t 63), some (60, true), [14, 15, 12]⟩,
  ⟨some 65, .load 1 true (.t 64), some (60, true), [16, 12]⟩,
  ⟨some 66, .fa (.t 3) 1, some (60, true), [12]⟩,
  ⟨some 67, .load 1 true (.t 66), some (60, true), [18, 12]⟩,
  ⟨some 68, .mov (.t 2), some (60, true), [12]⟩,
  ⟨some 69, .ia 1 (.t 67) (.t 68), some (60, true), [19, 20, 12]⟩,
  ⟨some 70, .load 1 true (.t 69), some (60, true), [21, 12]⟩,
  ⟨some 71, .bin .gtr (.t 65) (.t 70), some (60, true), [17, 22, 12]⟩,
  ⟨some 72, .pick (.t 60) (.t 71) (.c (.bool false)), none, [12, 23]⟩,
  ⟨some 6, .mov (.t 72), none, [24, 12, 0, 1, 2, 3, 4, 5, 6, 7, 8, 9, 10, 11, 12, 13, 14, 15, 16, 17, 18, 19, 20, 21, 22, 23, 24]⟩] [1, 2, 3, 46, 48, 49, 50, 51, 52, 53, 54, 55, 56, 57, 58, 59, 60, 61, 62, 63, 64, 65, 66, 67, 68, 69, 70, 71, 72]
def R_ballot_Prefers_11 : AC := .ops false [⟨some 6, .mov (.c (.bool false)), none, []⟩] [1, 2, 3, 46]
def F_ballot_Prefers : AFunc := { ntmps := 73, nargs := 3, kills := [[0, 6], [9, 10, 11, 12, 13], [1, 2, 3, 14], [14, 15, 16, 17, 18, 19, 20, 21, 22], [23], [26], [1, 2, 3, 7, 8, 24, 25, 27, 28, 29, 30, 31, 32, 33, 34, 35, 36, 37], [25, 39], [1, 2, 3, 7, 8, 24, 38, 40, 41, 42, 43, 44, 45], [7, 8, 24, 38, 47], [1, 2, 3, 46, 48, 49, 50, 51, 52, 53, 54, 55, 56, 57, 58, 59, 60, 61, 62, 63, 64, 65, 66, 67, 68, 69, 70, 71, 72], [1, 2, 3, 46]], results := [.t 6], body := (.seq R_ballot_Prefers_0 (.seq (.seq R_ballot_Prefers_1 (.cond (.t 14) (.seq R_ballot_Prefers_2 .ret) .skip)) (.seq R_ballot_Prefers_3 (.seq (.seq R_ballot_Prefers_4 (.block 0 (.seq R_ballot_Prefers_5 (.cond (.t 25) (.seq R_ballot_Prefers_6 .ret) (.seq R_ballot_Prefers_7 (.cond (.t 38) (.seq R_ballot_Prefers_8 .ret) (.seq R_ballot_Prefers_9 (.cond (.t 46) (.seq R_ballot_Prefers_10 .ret) .skip)))))))) (.seq R_ballot_Prefers_11 .ret))))) }
noncomputable def T188 : { F : AFunc // CT.func [[0, 6], [9, 10, 11, 12, 13], [1, 2, 3, 14], [14, 15, 16, 17, 18, 19, 20, 21, 22], [23], [26], [1, 2, 3, 7, 8, 24, 25, 27, 28, 29, 30, 31, 32, 33, 34, 35, 36, 37], [25, 39], [1, 2, 3, 7, 8, 24, 38, 40, 41, 42, 43, 44, 45], [7, 8, 24, 38, 47], [1, 2, 3, 46, 48, 49, 50, 51, 52, 53, 54, 55, 56, 57, 58, 59, 60, 61, 62, 63, 64, 65, 66, 67, 68, 69, 70, 71, 72], [1, 2, 3, 46]] Tryz.f188 = some F } := ⟨F_ballot_Prefers, by kernel_rfl⟩
theorem c188 : Cert 188 T188.1 := cert_of T188.2 Tryz.func188
-- suffrage/paths.links
def R_paths_links_0 : AC := .ops false [⟨some 1, .box (.t 0), none, []⟩,
  ⟨some 2, .alloc [.int .i64 0, .int .i64 0, .int .i64 0, .int .i64 0, .int .i64 0, .int .i64 0, .int .i64 0, .int .i64 0, .int .i64 0, .int .i64 0, .int .i64 0, .int .i64 0, .int .i64 0, .int .i64 0, .int .i64 0, .int .i64 0, .int .i64 0, .int .i64 0, .int .i64 0, .int .i64 0, .int .i64 0, .int .i64 0, .int .i64 0, .int .i64 0, .int .i64 0, .int .i64 0, .int .i64 0, .int .i64 0, .int .i64 0, .int .i64 0, .int .i64 0, .int .i64 0, .int .i64 0, .int .i64 0, .int .i64 0, .int .i64 0, .int .i64 0, .int .i64 0, .int .i64 0, .int .i64 0, .int .i64 0, .int .i64 0, .int .i64 0, .int .i64 0, .int .i64 0, .int .i64 0, .int .i64 0, .int .i64 0, .int .i64 0, .int .i64 0, .int .i64 0, .int .i64 0, .int .i64 0, .int .i64 0, .int .i64 0, .int .i64 0, .int .i64 0, .int .i64 0, .int .i64 0, .int .i64 0, .int .i64 0, .int .i64 0, .int .i64 0, .int .i64 0, .int .i64 0, .int .i64 0, .int .i64 0, .int .i64 0, .int .i64 0, .int .i64 0, .int .i64 0, .int .i64 0, .int .i64 0, .int .i64 0, .int .i64 0, .int .i64 0, .int .i64 0, .int .i64 0, .int .i64 0, .int .i64 0, .int .i64 0, .int .i64 0, .int .i64 0, .int .i64 0, .int .i64 0, .int .i64 0, .int .i64 0, .int .i64 0, .int .i64 0, .int .i64 0, .int .i64 0, .int .i64 0, .int .i64 0, .int .i64 0, .int .i64 0, .int .i64 0, .int .i64 0, .int .i64 0, .int .i64 0, .int .i64 0], none, []⟩] [0]
def R_paths_links_1 : AC := .ops false [⟨some 6, .mov (.c (.int .i64 0)), none, []⟩] []
def R_paths_links_2 : AC := .ops false [⟨some 7, .bin .lss (.t 6) (.c (.int .i64 10)), none, []⟩] []
def R_paths_links_3 : AC := .ops false [⟨some 8, .mov (.t 6), none, []⟩,
  ⟨some 3, .mov (.t 8), none, []⟩] [7, 8]
def R_paths_links_4 : AC := .ops false [⟨some 9, .mov (.t 3), none, []⟩,
  ⟨some 10, .iaa 10 10 (.t 1) (.t 9), none, []⟩,
  ⟨some 11, .load 10 false (.t 10), none, []⟩,
  ⟨some 12, .mov (.c (.int .i64 0)), none, []⟩] [9, 10]
def R_paths_links_5 : AC := .ops false [⟨some 13, .bin .lss (.t 12) (.c (.int .i64 10)), none, []⟩] []
def R_paths_links_6 : AC := .ops false [⟨some 14, .mov (.t 12), none, []⟩,
  ⟨some 15, .idx 1 10 true (.t 11) (.t 12), none, []⟩,
  ⟨some 4, .mov (.t 14), none, []⟩,
  ⟨some 5, .mov (.t 15), none, []⟩] [13, 14, 15]
def R_paths_links_7 : AC := .ops false [⟨some 16, .mov (.t 5), none, []⟩,
  ⟨some 17, .mov (.t 4), none, []⟩,
  ⟨some 18, .mov (.t 3), none, []⟩,
  ⟨some 19, .iaa 10 10 (.t 1) (.t 17), none, []⟩,
  ⟨some 20, .iaa 1 10 (.t 19) (.t 18), none, []⟩,
  ⟨some 21, .load 1 true (.t 20), none, []⟩,
  ⟨some 22, .bin .gtr (.t 16) (.t 21), none, []⟩] [16, 17, 18, 19, 20, 21]
def R_paths_links_8 : AC := .ops false [⟨some 23, .mov (.t 3), none, []⟩,
  ⟨some 24, .mov (.t 4), none, []⟩,
  ⟨some 25, .mov (.t 5), none, []⟩,
  ⟨some 26, .iaa 10 10 (.t 2) (.t 23), none, []⟩,
  ⟨some 27, .iaa 1 10 (.t 26) (.t 24), none, []⟩,
  ⟨none, .store 1 (.t 27) (.t 25), none, []⟩] [4, 5, 22, 23, 24, 25, 26, 27]
def R_paths_links_9 : AC := .ops false [⟨some 28, .bin .add (.t 12) (.c (.int .i64 1)), none, []⟩,
  ⟨some 12, .mov (.t 28), none, []⟩] [4, 5, 22, 28]
def L_paths_links_1 : AC := (.seq R_paths_links_5 (.seq (.cond (.t 13) .skip (.exit 2)) (.seq (.block 3 (.seq R_paths_links_6 (.seq R_paths_links_7 (.cond (.t 22) R_paths_links_8 .skip)))) R_paths_links_9)))
def R_paths_links_10 : AC := .ops false [⟨some 29, .bin .add (.t 6) (.c (.int .i64 1)), none, []⟩,
  ⟨some 6, .mov (.t 29), none, []⟩] [3, 11, 12, 13, 29]
def L_paths_links_2 : AC := (.seq R_paths_links_2 (.seq (.cond (.t 7) .skip (.exit 0)) (.seq (.block 1 (.seq R_paths_links_3 (.seq R_paths_links_4 (.block 2 (.loop L_paths_links_1))))) R_paths_links_10)))
def R_paths_links_11 : AC := .ops false [⟨some 30, .load 100 false (.t 2), none, []⟩,
  ⟨none, .store 100 (.t 2) (.t 30), none, []⟩] [1, 6, 7, 30]
def F_paths_links : AFunc := { ntmps := 31, nargs := 1, kills := [[0], [], [], [7, 8], [9, 10], [], [13, 14, 15], [16, 17, 18, 19, 20, 21], [4, 5, 22, 23, 24, 25, 26, 27], [4, 5, 22, 28], [3, 11, 12, 13, 29], [1, 6, 7, 30]], results := [.cell 2 100 false], body := (.seq R_paths_links_0 (.seq (.seq R_paths_links_1 (.block 0 (.loop L_paths_links_2))) (.seq R_paths_links_11 .ret))) }
noncomputable def T189 : { F : AFunc // CT.func [[0], [], [], [7, 8], [9, 10], [], [13, 14, 15], [16, 17, 18, 19, 20, 21], [4, 5, 22, 23, 24, 25, 26, 27], [4, 5, 22, 28], [3, 11, 12, 13, 29], [1, 6, 7, 30]] Tryz.f189 = some F } := ⟨F_paths_links, by kernel_rfl⟩
theorem c189 : Cert 189 T189.1 := cert_of T189.2 Tryz.func189
-- suffrage/paths.longer
def R_paths_longer_0 : AC := .ops false [⟨some 1, .box (.t 0), none, []⟩,
  ⟨some 2, .alloc [.int .i64 0, .int .i64 0, .int .i64 0, .int .i64 0, .int .i64 0, .int .i64 0, .int .i64 0, .int .i64 0, .int .i64 0, .int .i64 0, .int .i64 0, .int .i64 0, .int .i64 0, .int .i64 0, .int .i64 0, .int .i64 0, .int .i64 0, .int .i64 0, .int .i64 0, .int .i64 0, .int .i64 0, .int .i64 0, .int .i64 0, .int .i64 0, .int .i64 0, .int .i64 0, .int .i64 0, .int .i64 0, .int .i64 0, .int .i64 0, .int .i64 0, .int .i64 0, .int .i64 0, .int .i64 0, .int .i64 0, .int .i64 0, .int .i64 0, .int .i64 0, .int .i64 0, .int .i64 0, .int .i64 0, .int .i64 0, .int .i64 0, .int .i64 0, .int .i64 0, .int .i64 0, .int .i64 0, .int .i64 0, .int .i64 0, .int .i64 0, .int .i64 0, .int .i64 0, .int .i64 0, .int .i64 0, .int .i64 0, .int .i64 0, .int .i64 0, .int .i64 0, .int .i64 0, .int .i64 0, .int .i64 0, .int .i64 0, .int .i64 0, .int .i64 0, .int .i64 0, .int .i64 0, .int .i64 0, .int .i64 0, .int .i64 0, .int .i64 0, .int .i64 0, .int .i64 0, .int .i64 0, .int .i64 0, .int .i64 0, .int .i64 0, .int .i64 0, .int .i64 0, .int .i64 0, .int .i64 0, .int .i64 0, .int .i64 0, .int .i64 0, .int .i64 0, .int .i64 0, .int .i64 0, .int .i64 0, .int .i64 0, .int .i64 0, .int .i64 0, .int .i64 0, .int .i64 0, .int .i64 0, .int .i64 0, .int .i64 0, .int .i64 0, .int .i64 0, .int .i64 0, .int .i64 0, .int .i64 0], none, []⟩] [0]
def R_paths_longer_1 : AC := .ops false [⟨some 7, .load 100 false (.t 1), none, []⟩,
  ⟨some 3, .alloc [.int .i64 0, .int .i64 0, .int .i64 0, .int .i64 0, .int .i64 0, .int .i64 0, .int .i64 0, .int .i64 0, .int .i64 0, .int .i64 0, .int .i64 0, .int .i64 0, .int .i64 0, .int .i64 0, .int .i64 0, .int .i64 0, .int .i64 0, .int .i64 0, .int .i64 0, .int .i64 0, .int .i64 0, .int .i64 0, .int .i64 0, .int .i64 0, .int .i64 0, .int .i64 0, .int .i64 0, .int .i64 0, .int .i64 0, .int .i64 0, .int .i64 0, .int .i64 0, .int .i64 0, .int .i64 0, .int .i64 0, .int .i64 0, .int .i64 0, .int .i64 0, .int .i64 0, .int .i64 0, .int .i64 0, .int .i64 0, .int .i64 0, .int .i64 0, .int .i64 0, .int .i64 0, .int .i64 0, .int .i64 0, .int .i64 0, .int .i64 0, .int .i64 0, .int .i64 0, .int .i64 0, .int .i64 0, .int .i64 0, .int .i64 0, .int .i64 0, .int .i64 0, .int .i64 0, .int .i64 0, .int .i64 0, .int .i64 0, .int .i64 0, .int .i64 0, .int .i64 0, .int .i64 0, .int .i64 0, .int .i64 0, .int .i64 0, .int .i64 0, .int .i64 0, .int .i64 0, .int .i64 0, .int .i64 0, .int .i64 0, .int .i64 0, .int .i64 0, .int .i64 0, .int .i64 0, .int .i64 0, .int .i64 0, .int .i64 0, .int .i64 0, .int .i64 0, .int .i64 0, .int .i64 0, .int .i64 0, .int .i64 0, .int .i64 0, .int .i64 0, .int .i64 0, .int .i64 0, .int .i64 0, .int .i64 0, .int .i64 0, .int .i64 0, .int .i64 0, .int .i64 0, .int .i64 0, .int .i64 0], none, []⟩,
  ⟨none, .store 100 (.t 3) (.t 7), none, []⟩] [7]
def R_paths_longer_2 : AC := .ops false [⟨some 8, .mov (.c (.int .i64 0)), none, []⟩] []
def R_paths_longer_3 : AC := .ops false [⟨some 9, .bin .lss (.t 8) (.c (.int .i64 10)), none, []⟩] []
def R_paths_longer_4 : AC := .ops false [⟨some 10, .mov (.t 8), none, []⟩,
  ⟨some 4, .mov (.t 10), none, []⟩] [9, 10]
def R_paths_longer_5 : AC := .ops false [⟨some 11, .mov (.c (.int .i64 0)), none, []⟩] []
def R_paths_longer_6 : AC := .ops false [⟨some 12, .bin .lss (.t 11) (.c (.int .i64 10)), none, []⟩] []
def R_paths_longer_7 : AC := .ops false [⟨some 13, .mov (.t 11), none, []⟩,
  ⟨some 5, .mov (.t 13), none, []⟩] [12, 13]
def R_paths_longer_8 : AC := .ops false [⟨some 14, .mov (.c (.int .i64 0)), none, []⟩] []
def R_paths_longer_9 : AC := .ops false [⟨some 15, .bin .lss (.t 14) (.c (.int .i64 10)), none, []⟩] []
def R_paths_longer_10 : AC := .ops false [⟨some 16, .mov (.t 14), none, []⟩,
  ⟨some 6, .mov (.t 16), none, []⟩] [15, 16]
def R_paths_longer_11 : AC := .ops false [⟨some 17, .mov (.t 4), none, []⟩,
  ⟨some 18, .mov (.t 6), none, []⟩,
  ⟨some 19, .bin .neq (.t 17) (.t 18), none, []⟩] [17, 18]
def R_paths_longer_12 : AC := .ops true [⟨some 20, .mov (.t 4), none, []⟩,
  ⟨some 21, .mov (.t 6), none, []⟩,
  ⟨some 22, .mov (.t 4), none, []⟩,
  ⟨some 23, .mov (.t 6), none, []⟩,
  ⟨some 24, .iaa 10 10 (.t 3) (.t 22), none, [2]⟩,
  ⟨some 25, .iaa 1 10 (.t 24) (.t 23), none, [4, 3]⟩,
  ⟨some 26, .load 1 true (.t 25), none, [5]⟩,
  ⟨some 27, .mov (.t 4), none, []⟩,
  ⟨some 28, .mov (.t 5), none, []⟩,
  ⟨some 29, .iaa 10 10 (.t 1) (.t 27), none, [7]⟩,
  ⟨some 30, .iaa 1 10 (.t 29) (.t 28), none, [9, 8]⟩,
  ⟨some 31, .load 1 true (.t 30), none, [10]⟩,
  ⟨some 32, .mov (.t 5), none, []⟩,
  ⟨some 33, .mov (.t 6), none, []⟩,
  ⟨some 34, .iaa 10 10 (.t 1) (.t 32), none, [12]⟩,
  ⟨some 35, .iaa 1 10 (.t 34) (.t 33), none, [14, 13]⟩,
  ⟨some 36, .load 1 true (.t 35), none, [15]⟩,
  ⟨some 37, .min [.t 31, .t 36], none, [11, 16]⟩,
  ⟨some 38, .max [.t 26, .t 37], none, [6, 17]⟩,
  ⟨some 39, .iaa 10 10 (.t 3) (.t 20), none, [0]⟩,
  ⟨some 40, .iaa 1 10 (.t 39) (.t 21), none, [19, 1, 0, 1, 2, 3, 4, 5, 6, 7, 8, 9, 10, 11, 12, 13, 14, 15, 16, 17, 18]⟩,
  ⟨none, .store 1 (.t 40) (.t 38), none, [20, 18, 0, 1, 2, 3, 4, 5, 6, 7, 8, 9, 10, 11, 12, 13, 14, 15, 16, 17, 18]⟩] [6, 19, 20, 21, 22, 23, 24, 25, 26, 27, 28, 29, 30, 31, 32, 33, 34, 35, 36, 37, 38, 39, 40]
def R_paths_longer_13 : AC := .ops false [⟨some 41, .bin .add (.t 14) (.c (.int .i64 1)), none, []⟩,
  ⟨some 14, .mov (.t 41), none, []⟩] [6, 19, 41]
def L_paths_longer_1 : AC := (.seq R_paths_longer_9 (.seq (.cond (.t 15) .skip (.exit 4)) (.seq (.block 5 (.seq R_paths_longer_10 (.seq R_paths_longer_11 (.cond (.t 19) R_paths_longer_12 .skip)))) R_paths_longer_13)))
def R_paths_longer_14 : AC := .ops false [⟨some 42, .bin .add (.t 11) (.c (.int .i64 1)), none, []⟩,
  ⟨some 11, .mov (.t 42), none, []⟩] [5, 14, 15, 42]
def L_paths_longer_2 : AC := (.seq R_paths_longer_6 (.seq (.cond (.t 12) .skip (.exit 2)) (.seq (.block 3 (.seq R_paths_longer_7 (.seq R_paths_longer_8 (.block 4 (.loop L_paths_longer_1))))) R_paths_longer_14)))
def R_paths_longer_15 : AC := .ops false [⟨some 43, .bin .add (.t 8) (.c (.int .i64 1)), none, []⟩,
  ⟨some 8, .mov (.t 43), none, []⟩] [4, 11, 12, 43]
def L_paths_longer_3 : AC := (.seq R_paths_longer_3 (.seq (.cond (.t 9) .skip (.exit 0)) (.seq (.block 1 (.seq R_paths_longer_4 (.seq R_paths_longer_5 (.block 2 (.loop L_paths_longer_2))))) R_paths_longer_15)))
def R_paths_longer_16 : AC := .ops false [⟨some 44, .load 100 false (.t 3), none, []⟩,
  ⟨none, .store 100 (.t 2) (.t 44), none, []⟩] [1, 3, 8, 9, 44]
def F_paths_longer : AFunc := { ntmps := 45, nargs := 1, kills := [[0], [7], [], [], [9, 10], [], [], [12, 13], [], [], [15, 16], [17, 18], [6, 19, 20, 21, 22, 23, 24, 25, 26, 27, 28, 29, 30, 31, 32, 33, 34, 35, 36, 37, 38, 39, 40], [6, 19, 41], [5, 14, 15, 42], [4, 11, 12, 43], [1, 3, 8, 9, 44]], results := [.cell 2 100 false], body := (.seq R_paths_longer_0 (.seq R_paths_longer_1 (.seq (.seq R_paths_longer_2 (.block 0 (.loop L_paths_longer_3))) (.seq R_paths_longer_16 .ret)))) }
noncomputable def T190 : { F : AFunc // CT.func [[0], [7], [], [], [9, 10], [], [], [12, 13], [], [], [15, 16], [17, 18], [6, 19, 20, 21, 22, 23, 24, 25, 26, 27, 28, 29, 30, 31, 32, 33, 34, 35, 36, 37, 38, 39, 40], [6, 19, 41], [5, 14, 15, 42], [4, 11, 12, 43], [1, 3, 8, 9, 44]] Tryz.f190 = some F } := ⟨F_paths_longer, by kernel_rfl⟩
theorem c190 : Cert 190 T190.1 := cert_of T190.2 Tryz.func190
-- (*suffrage/choose.Count).tell
noncomputable def T191 : { F : AFunc // CT.func [[6], [8, 9], [1, 10, 11, 12], [13, 14], [0, 7, 15, 16, 17, 18, 19, 20, 21, 22, 23, 24, 25, 26, 27, 28], [0, 1, 2, 10, 29]] Tryz.f191 = some F } := by
  refine ⟨?F, ?h⟩
  case h =>
    conv => lhs; cbv
theorem c191 : Cert 191 T191.1 := cert_of T191.2 Tryz.func191
-- (*suffrage/choose.Count).first
noncomputable def T192 : { F : AFunc // CT.func [[0, 4], [1, 2, 5, 6, 7]] Tryz.f192 = some F } := by
  refine ⟨?F, ?h⟩
  case h =>
    conv => lhs; cbv
theorem c192 : Cert 192 T192.1 := cert_of T192.2 Tryz.func192
-- suffrage/ranked.Order
def R_ranked_Order_0 : AC := .ops false [⟨some 3, .box (.t 0), none, []⟩,
  ⟨some 6, .mov (.c (.lst 0 [] (some 0))), none, []⟩,
  ⟨some 7, .mov (.c (.int .i64 0)), none, []⟩] [0, 7]
def R_ranked_Order_1 : AC := .ops false [⟨some 13, .load 100 false (.t 3), none, []⟩,
  ⟨some 14, .mov (.t 1), none, []⟩,
  ⟨some 15, .mov (.t 2), none, []⟩,
  ⟨some 16, .call (.fn 261) [.t 13, .t 14, .t 15], none, []⟩,
  ⟨some 7, .mov (.t 16), none, []⟩] [1, 13, 14, 15, 16]
def R_ranked_Order_2 : AC := .ops false [⟨some 17, .mov (.t 7), none, []⟩,
  ⟨some 18, .bin .neq (.t 17) (.c (.int .i64 0)), none, []⟩] [17]
def R_ranked_Order_3 : AC := .ops false [⟨some 19, .mov (.t 7), none, []⟩,
  ⟨some 6, .mov (.c (.lst 0 [] (some 0))), none, []⟩,
  ⟨some 7, .mov (.t 19), none, []⟩] [2, 3, 18, 19]
def R_ranked_Order_4 : AC := .ops false [⟨some 20, .mov (.t 2), none, []⟩,
  ⟨some 21, .len (.t 20), none, []⟩,
  ⟨some 22, .mov (.c (.int .i64 0)), none, []⟩] [7, 18]
def R_ranked_Order_5 : AC := .ops false [⟨some 23, .bin .lss (.t 22) (.t 21), none, []⟩] []
def R_ranked_Order_6 : AC := .ops false [⟨some 24, .ia 1 (.t 20) (.t 22), none, []⟩,
  ⟨some 25, .load 1 true (.t 24), none, []⟩,
  ⟨some 9, .mov (.t 25), none, []⟩] [23, 24, 25]
def R_ranked_Order_7 : AC := .ops false [⟨some 26, .mov (.t 2), none, []⟩,
  ⟨some 27, .len (.t 26), none, []⟩,
  ⟨some 28, .mov (.c (.int .i64 0)), none, []⟩] []
def R_ranked_Order_8 : AC := .ops false [⟨some 29, .bin .lss (.t 28) (.t 27), none, []⟩] []
def R_ranked_Order_9 : AC := .ops false [⟨some 30, .ia 1 (.t 26) (.t 28), none, []⟩,
  ⟨some 31, .load 1 true (.t 30), none, []⟩,
  ⟨some 11, .mov (.t 31), none, []⟩] [29, 30, 31]
def R_ranked_Order_10 : AC := .ops true [⟨some 32, .mov (.t 9), none, []⟩,
  ⟨some 33, .mov (.t 11), none, []⟩,
  ⟨some 34, .iaa 10 10 (.t 3) (.t 32), none, [0]⟩,
  ⟨some 35, .iaa 1 10 (.t 34) (.t 33), none, [2, 1]⟩,
  ⟨some 36, .load 1 true (.t 35), none, [3]⟩,
  ⟨some 37, .mov (.t 11), none, []⟩,
  ⟨some 38, .mov (.t 9), none, []⟩,
  ⟨some 39, .iaa 10 10 (.t 3) (.t 37), none, [5]⟩,
  ⟨some 40, .iaa 1 10 (.t 39) (.t 38), none, [7, 6]⟩,
  ⟨some 41, .load 1 true (.t 40), none, [8]⟩,
  ⟨some 42, .bin .sub (.t 36) (.t 41), none, [4, 9]⟩,
  ⟨some 12, .mov (.t 42), none, [10, 0, 1, 2, 3, 4, 5, 6, 7, 8, 9, 10]⟩] [32, 33, 34, 35, 36, 37, 38, 39, 40, 41, 42]
def R_ranked_Order_11 : AC := .ops false [⟨some 43, .mov (.t 12), none, []⟩,
  ⟨some 44, .bin .gtr (.t 43) (.c (.int .i64 0)), none, []⟩] [43]
def R_ranked_Order_12 : AC := .ops false [⟨some 45, .mov (.t 6), none, []⟩,
  ⟨some 46, .mov (.t 9), none, []⟩,
  ⟨some 47, .mov (.t 11), none, []⟩,
  ⟨some 48, .mov (.t 12), none, []⟩,
  ⟨some 49, .mov (.t 9), none, []⟩,
  ⟨some 50, .mov (.t 11), none, []⟩,
  ⟨some 51, .iaa 10 10 (.t 3) (.t 49), none, []⟩,
  ⟨some 52, .iaa 1 10 (.t 51) (.t 50), none, []⟩,
  ⟨some 53, .load 1 true (.t 52), none, []⟩,
  ⟨some 54, .build [.int .i64 0, .int .i64 0, .int .i64 0, .int .i64 0] [(0, 1, .t 46), (1, 1, .t 47), (2, 1, .t 48), (3, 1, .t 53)], none, []⟩,
  ⟨some 55, .bslice 4 [.int .i64 0, .int .i64 0, .int .i64 0, .int .i64 0] 1 [(0, .t 54)], none, []⟩,
  ⟨some 56, .append 4 32 (.t 45) (.t 55), none, []⟩,
  ⟨some 6, .mov (.t 56), none, []⟩] [11, 12, 44, 45, 46, 47, 48, 49, 50, 51, 52, 53, 54, 55, 56]
def R_ranked_Order_13 : AC := .ops false [⟨some 57, .bin .add (.t 28) (.c (.int .i64 1)), none, []⟩,
  ⟨some 28, .mov (.t 57), none, []⟩] [11, 12, 44, 57]
def L_ranked_Order_1 : AC := (.seq R_ranked_Order_8 (.seq (.cond (.t 29) .skip (.exit 2)) (.seq (.block 3 (.seq R_ranked_Order_9 (.seq R_ranked_Order_10 (.seq R_ranked_Order_11 (.cond (.t 44) R_ranked_Order_12 .skip))))) R_ranked_Order_13)))
def R_ranked_Order_14 : AC := .ops false [⟨some 58, .bin .add (.t 22) (.c (.int .i64 1)), none, []⟩,
  ⟨some 22, .mov (.t 58), none, []⟩] [9, 26, 27, 28, 29, 58]
def L_ranked_Order_2 : AC := (.seq R_ranked_Order_5 (.seq (.cond (.t 23) .skip (.exit 0)) (.seq (.block 1 (.seq R_ranked_Order_6 (.seq R_ranked_Order_7 (.block 2 (.loop L_ranked_Order_1))))) R_ranked_Order_14)))
def R_ranked_Order_15 : AC := .ops false [⟨some 59, .mov (.t 6), none, []⟩,
  ⟨some 60, .call (.fn 262) [.t 59, .f 263], none, []⟩] [2, 3, 20, 21, 22, 23, 59, 60]
def R_ranked_Order_16 : AC := .ops false [⟨some 61, .mov (.t 6), none, []⟩,
  ⟨some 6, .mov (.t 61), none, []⟩,
  ⟨some 7, .mov (.c (.int .i64 0)), none, []⟩] [61]
def F_ranked_Order : AFunc := { ntmps := 62, nargs := 3, kills := [[0, 7], [1, 13, 14, 15, 16], [17], [2, 3, 18, 19], [7, 18], [], [23, 24, 25], [], [], [29, 30, 31], [32, 33, 34, 35, 36, 37, 38, 39, 40, 41, 42], [43], [11, 12, 44, 45, 46, 47, 48, 49, 50, 51, 52, 53, 54, 55, 56], [11, 12, 44, 57], [9, 26, 27, 28, 29, 58], [2, 3, 20, 21, 22, 23, 59, 60], [61]], results := [.t 6, .t 7], body := (.seq R_ranked_Order_0 (.seq (.seq R_ranked_Order_1 (.seq R_ranked_Order_2 (.cond (.t 18) (.seq R_ranked_Order_3 .ret) .skip))) (.seq (.seq R_ranked_Order_4 (.block 0 (.loop L_ranked_Order_2))) (.seq R_ranked_Order_15 (.seq R_ranked_Order_16 .ret))))) }
noncomputable def T193 : { F : AFunc // CT.func [[0, 7], [1, 13, 14, 15, 16], [17], [2, 3, 18, 19], [7, 18], [], [23, 24, 25], [], [], [29, 30, 31], [32, 33, 34, 35, 36, 37, 38, 39, 40, 41, 42], [43], [11, 12, 44, 45, 46, 47, 48, 49, 50, 51, 52, 53, 54, 55, 56], [11, 12, 44, 57], [9, 26, 27, 28, 29, 58], [2, 3, 20, 21, 22, 23, 59, 60], [61]] Tryz.f193 = some F } := ⟨F_ranked_Order, by kernel_rfl⟩
theorem c193 : Cert 193 T193.1 := cert_of T193.2 Tryz.func193
-- suffrage/ranked.Leads
noncomputable def T194 : { F : AFunc // CT.func [[0, 2, 6], [9, 10, 11], [], [3, 5, 7, 12], [1, 8, 13, 14, 15]] Tryz.f194 = some F } := by
  refine ⟨?F, ?h⟩
  case h =>
    conv => lhs; cbv
theorem c194 : Cert 194 T194.1 := cert_of T194.2 Tryz.func194
-- slices.Index[[]suffrage/api.Link,suffrage/api.Link]
noncomputable def T195 : { F : AFunc // CT.func [[1, 4], [6], [], [9, 10], [11, 12, 13, 14, 15], [0, 3, 5, 7, 8, 16, 17], [5, 16, 18], [0, 3, 7, 8, 9]] Tryz.f195 = some F } := by
  refine ⟨?F, ?h⟩
  case h =>
    conv => lhs; cbv
theorem c195 : Cert 195 T195.1 := cert_of T195.2 Tryz.func195
end Go.Proofs.YtmkaekblmbjhpaaGreat
