/- The functions in the abstract language, worked out by Lean. -/
import Derived.Test.YtmkaekblmbjhpaaGreatAlX
set_option linter.unusedVariables false
set_option maxHeartbeats 1000000
set_option maxRecDepth 100000
namespace Go.Proofs.YtmkaekblmbjhpaaGreat
-- suffrage/lists.remainders
def R_lists_remainders_0 : AC := .ops false [⟨some 6, .mov (.c (.lst 0 [] (some 0))), none, []⟩] []
def R_lists_remainders_1 : AC := .ops false [⟨some 7, .mov (.c (.int .i64 0)), none, []⟩] []
def R_lists_remainders_2 : AC := .ops false [⟨some 15, .mov (.t 1), none, []⟩,
  ⟨some 16, .len (.t 15), none, []⟩,
  ⟨some 17, .mov (.c (.int .i64 0)), none, []⟩] []
def R_lists_remainders_3 : AC := .ops false [⟨some 18, .bin .lss (.t 17) (.t 16), none, []⟩] []
def R_lists_remainders_4 : AC := .ops false [⟨some 19, .ia 1 (.t 15) (.t 17), none, []⟩,
  ⟨some 20, .load 1 true (.t 19), none, []⟩,
  ⟨some 9, .mov (.t 20), none, []⟩] [18, 19, 20]
def R_lists_remainders_5 : AC := .ops false [⟨some 21, .mov (.t 7), none, []⟩,
  ⟨some 22, .mov (.t 9), none, []⟩,
  ⟨some 23, .bin .add (.t 21) (.t 22), none, []⟩,
  ⟨some 7, .mov (.t 23), none, []⟩] [9, 21, 22, 23]
def R_lists_remainders_6 : AC := .ops false [⟨some 24, .bin .add (.t 17) (.c (.int .i64 1)), none, []⟩,
  ⟨some 17, .mov (.t 24), none, []⟩] [24]
def L_lists_remainders_1 : AC := (.seq R_lists_remainders_3 (.seq (.cond (.t 18) .skip (.exit 0)) (.seq (.block 1 (.seq R_lists_remainders_4 R_lists_remainders_5)) R_lists_remainders_6)))
def R_lists_remainders_7 : AC := .ops false [⟨some 25, .mov (.t 1), none, []⟩,
  ⟨some 26, .len (.t 25), none, []⟩,
  ⟨some 27, .mkslice 1 8 [.int .i64 0] (.t 26) (.t 26), none, []⟩,
  ⟨some 10, .alloc [.lst 0 [] (some 0)], none, []⟩,
  ⟨none, .store 1 (.t 10) (.t 27), none, []⟩] [15, 16, 17, 18, 25, 26, 27]
def R_lists_remainders_8 : AC := .ops false [⟨some 28, .mov (.t 1), none, []⟩,
  ⟨some 29, .len (.t 28), none, []⟩,
  ⟨some 30, .mov (.c (.int .i64 0)), none, []⟩] []
def R_lists_remainders_9 : AC := .ops false [⟨some 31, .bin .lss (.t 30) (.t 29), none, []⟩] []
def R_lists_remainders_10 : AC := .ops false [⟨some 32, .mov (.t 30), none, []⟩,
  ⟨some 33, .ia 1 (.t 28) (.t 30), none, []⟩,
  ⟨some 34, .load 1 true (.t 33), none, []⟩,
  ⟨some 11, .mov (.t 32), none, []⟩,
  ⟨some 12, .mov (.t 34), none, []⟩] [31, 32, 33, 34]
def R_lists_remainders_11 : AC := .ops false [⟨some 35, .mov (.t 7), none, []⟩,
  ⟨some 36, .bin .gtr (.t 35) (.c (.int .i64 0)), none, []⟩] [35]
def R_lists_remainders_12 : AC := .ops false [⟨some 37, .mov (.t 6), none, []⟩,
  ⟨some 38, .mov (.t 11), none, []⟩,
  ⟨some 39, .bslice 1 [.int .i64 0] 1 [(0, .t 38)], none, []⟩,
  ⟨some 40, .mov (.t 12), none, []⟩,
  ⟨some 41, .mov (.t 2), none, []⟩,
  ⟨some 42, .bin .mul (.t 40) (.t 41), none, []⟩,
  ⟨some 43, .mov (.t 7), none, []⟩,
  ⟨some 44, .bin .quo (.t 42) (.t 43), none, []⟩,
  ⟨some 45, .call (.fn 236) [.t 39, .t 44], none, []⟩,
  ⟨some 46, .append 1 8 (.t 37) (.t 45), none, []⟩,
  ⟨some 6, .mov (.t 46), none, []⟩] [36, 37, 38, 39, 40, 41, 42, 43, 44, 45, 46]
def R_lists_remainders_13 : AC := .ops true [⟨some 47, .load 1 true (.t 10), none, []⟩,
  ⟨some 48, .mov (.t 11), none, []⟩,
  ⟨some 49, .mov (.t 12), none, []⟩,
  ⟨some 50, .mov (.t 2), none, []⟩,
  ⟨some 51, .bin .mul (.t 49) (.t 50), none, [2, 3]⟩,
  ⟨some 52, .mov (.t 7), none, []⟩,
  ⟨some 53, .bin .rem (.t 51) (.t 52), none, [4, 5]⟩,
  ⟨some 54, .ia 1 (.t 47) (.t 48), none, [0, 1, 0, 1, 2, 3, 4, 5, 6]⟩,
  ⟨none, .store 1 (.t 54) (.t 53), none, [7, 6, 0, 1, 2, 3, 4, 5, 6]⟩] [11, 12, 47, 48, 49, 50, 51, 52, 53, 54]
def R_lists_remainders_14 : AC := .ops false [⟨some 55, .bin .add (.t 30) (.c (.int .i64 1)), none, []⟩,
  ⟨some 30, .mov (.t 55), none, []⟩] [11, 12, 36, 55]
def L_lists_remainders_2 : AC := (.seq R_lists_remainders_9 (.seq (.cond (.t 31) .skip (.exit 2)) (.seq (.block 3 (.seq R_lists_remainders_10 (.seq R_lists_remainders_11 (.cond (.t 36) (.seq R_lists_remainders_12 R_lists_remainders_13) .skip)))) R_lists_remainders_14)))
def R_lists_remainders_15 : AC := .ops false [⟨some 13, .mov (.c (.lst 0 [] (some 0))), none, []⟩] [7, 28, 29, 30, 31]
def R_lists_remainders_16 : AC := .ops false [⟨some 56, .mov (.t 6), none, []⟩,
  ⟨some 57, .len (.t 56), none, []⟩,
  ⟨some 58, .mov (.t 2), none, []⟩,
  ⟨some 59, .bin .lss (.t 57) (.t 58), none, []⟩] [56, 57, 58]
def R_lists_remainders_17 : AC := .ops false [⟨some 60, .mov (.t 13), none, []⟩,
  ⟨some 61, .len (.t 60), none, []⟩,
  ⟨some 62, .bin .eql (.t 61) (.c (.int .i64 0)), none, []⟩] [59, 60, 61]
def R_lists_remainders_18 : AC := .ops false [⟨some 63, .mov (.t 1), none, []⟩,
  ⟨some 64, .len (.t 63), none, []⟩,
  ⟨some 65, .call (.fn 134) [.t 64], none, []⟩,
  ⟨some 13, .mov (.t 65), none, []⟩] [62, 63, 64, 65]
def R_lists_remainders_19 : AC := .ops false [⟨some 66, .mov (.t 0), none, []⟩,
  ⟨some 67, .mov (.t 13), none, []⟩,
  ⟨some 68, .mkfn 238 [] [.t 10], none, []⟩,
  ⟨some 69, .call (.fn 237) [.t 67, .t 68, .f 113], none, []⟩,
  ⟨some 70, .call (.fn 132) [.t 66, .t 69], none, []⟩,
  ⟨some 14, .alloc [.int .i64 0], none, []⟩,
  ⟨none, .store 1 (.t 14) (.t 70), none, []⟩] [62, 66, 67, 68, 69, 70]
def R_lists_remainders_20 : AC := .ops false [⟨some 71, .mov (.t 6), none, []⟩,
  ⟨some 72, .load 1 true (.t 14), none, []⟩,
  ⟨some 73, .bslice 1 [.int .i64 0] 1 [(0, .t 72)], none, []⟩,
  ⟨some 74, .append 1 8 (.t 71) (.t 73), none, []⟩,
  ⟨some 6, .mov (.t 74), none, []⟩] [71, 72, 73, 74]
def R_lists_remainders_21 : AC := .ops false [⟨some 75, .mov (.t 13), none, []⟩,
  ⟨some 76, .mkfn 239 [] [.t 14], none, []⟩,
  ⟨some 77, .call (.fn 139) [.t 75, .t 76], none, []⟩,
  ⟨some 13, .mov (.t 77), none, []⟩] [14, 75, 76, 77]
def L_lists_remainders_3 : AC := (.seq (.seq R_lists_remainders_16 (.cond (.t 59) .skip (.exit 4))) (.block 5 (.seq (.seq R_lists_remainders_17 (.cond (.t 62) R_lists_remainders_18 .skip)) (.seq R_lists_remainders_19 (.seq R_lists_remainders_20 R_lists_remainders_21)))))
def R_lists_remainders_22 : AC := .ops false [⟨some 78, .mov (.t 6), none, []⟩,
  ⟨some 6, .mov (.t 78), none, []⟩] [0, 1, 2, 10, 13, 59, 78]
def F_lists_remainders : AFunc := { ntmps := 79, nargs := 3, kills := [[], [], [], [], [18, 19, 20], [9, 21, 22, 23], [24], [15, 16, 17, 18, 25, 26, 27], [], [], [31, 32, 33, 34], [35], [36, 37, 38, 39, 40, 41, 42, 43, 44, 45, 46], [11, 12, 47, 48, 49, 50, 51, 52, 53, 54], [11, 12, 36, 55], [7, 28, 29, 30, 31], [56, 57, 58], [59, 60, 61], [62, 63, 64, 65], [62, 66, 67, 68, 69, 70], [71, 72, 73, 74], [14, 75, 76, 77], [0, 1, 2, 10, 13, 59, 78]], results := [.t 6], body := (.seq R_lists_remainders_0 (.seq R_lists_remainders_1 (.seq (.seq R_lists_remainders_2 (.block 0 (.loop L_lists_remainders_1))) (.seq R_lists_remainders_7 (.seq (.seq R_lists_remainders_8 (.block 2 (.loop L_lists_remainders_2))) (.seq R_lists_remainders_15 (.seq (.block 4 (.loop L_lists_remainders_3)) (.seq R_lists_remainders_22 .ret)))))))) }
noncomputable def T163 : { F : AFunc // CT.func [[], [], [], [], [18, 19, 20], [9, 21, 22, 23], [24], [15, 16, 17, 18, 25, 26, 27], [], [], [31, 32, 33, 34], [35], [36, 37, 38, 39, 40, 41, 42, 43, 44, 45, 46], [11, 12, 47, 48, 49, 50, 51, 52, 53, 54], [11, 12, 36, 55], [7, 28, 29, 30, 31], [56, 57, 58], [59, 60, 61], [62, 63, 64, 65], [62, 66, 67, 68, 69, 70], [71, 72, 73, 74], [14, 75, 76, 77], [0, 1, 2, 10, 13, 59, 78]] Tryz.f163 = some F } := ⟨F_lists_remainders, by kernel_rfl⟩
theorem c163 : Cert 163 T163.1 := cert_of T163.2 Tryz.func163
-- suffrage/nat.Check
noncomputable def T164 : { F : AFunc // CT.func [[2], [4, 5], [7, 8], [0, 3, 6], [0, 3, 6, 10, 11, 12, 13, 14, 15, 16, 17, 18, 19], [9], [9]] Tryz.f164 = some F } := by
  refine ⟨?F, ?h⟩
  case h =>
    conv => lhs; cbv
theorem c164 : Cert 164 T164.1 := cert_of T164.2 Tryz.func164
-- suffrage/nat.order
noncomputable def T165 : { F : AFunc // CT.func [[4], [6, 7, 8, 9], [0, 1, 10, 11, 12, 13, 14, 15, 16, 17], [10, 18, 19, 20], [21], [23, 24, 35], [22, 26, 27, 28, 29, 30, 31, 32, 33, 34], [0, 1, 5, 25], [25, 36, 37, 38, 39, 40, 41, 42, 43, 44], [0, 1, 5, 35], [0, 1, 5, 22]] Tryz.f165 = some F } := by
  refine ⟨?F, ?h⟩
  case h =>
    conv => lhs; cbv
theorem c165 : Cert 165 T165.1 := cert_of T165.2 Tryz.func165
-- suffrage/nat.small
noncomputable def T166 : { F : AFunc // CT.func [[4], [7, 8, 9], [10, 11, 12], [13], [15, 16], [14, 17, 18, 19, 20, 21, 22, 23, 24, 25, 26, 27, 28, 29], [0, 1, 6, 14, 30, 31, 32]] Tryz.f166 = some F } := by
  refine ⟨?F, ?h⟩
  case h =>
    conv => lhs; cbv
theorem c166 : Cert 166 T166.1 := cert_of T166.2 Tryz.func166
-- suffrage/nat.long
def R_nat_long_0 : AC := .ops false [⟨some 4, .mov (.c (.lst 0 [] (some 0))), none, []⟩,
  ⟨some 5, .mov (.c (.lst 0 [] (some 0))), none, []⟩] [4, 5]
def R_nat_long_1 : AC := .ops false [⟨some 14, .mov (.t 1), none, []⟩,
  ⟨some 15, .mov (.t 1), none, []⟩,
  ⟨some 16, .len (.t 15), none, []⟩,
  ⟨some 17, .bin .sub (.t 16) (.c (.int .i64 1)), none, []⟩,
  ⟨some 18, .ia 1 (.t 14) (.t 17), none, []⟩,
  ⟨some 19, .load 1 true (.t 18), none, []⟩,
  ⟨some 20, .call (.fn 241) [.t 19], none, []⟩,
  ⟨some 6, .mov (.t 20), none, []⟩] [14, 15, 16, 17, 18, 19, 20]
def R_nat_long_2 : AC := .ops false [⟨some 21, .mov (.t 0), none, []⟩,
  ⟨some 22, .mov (.t 6), none, []⟩,
  ⟨some 23, .call (.fn 242) [.t 21, .t 22], none, []⟩,
  ⟨some 24, .mov (.t 1), none, []⟩,
  ⟨some 25, .mov (.t 6), none, []⟩,
  ⟨some 26, .call (.fn 242) [.t 24, .t 25], none, []⟩,
  ⟨some 27, .call (.fn 43) [.t 26], none, []⟩,
  ⟨some 7, .mov (.t 23), none, []⟩,
  ⟨some 8, .mov (.t 27), none, []⟩] [0, 1, 21, 22, 23, 24, 25, 26, 27]
def R_nat_long_3 : AC := .ops false [⟨some 28, .mov (.t 8), none, []⟩,
  ⟨some 29, .len (.t 28), none, []⟩,
  ⟨some 9, .mov (.t 29), none, []⟩] [28, 29]
def R_nat_long_4 : AC := .ops false [⟨some 30, .mov (.t 7), none, []⟩,
  ⟨some 31, .len (.t 30), none, []⟩,
  ⟨some 32, .mov (.t 9), none, []⟩,
  ⟨some 33, .bin .sub (.t 31) (.t 32), none, []⟩,
  ⟨some 34, .mkslice 1 4 [.int .u32 0] (.t 33) (.t 33), none, []⟩,
  ⟨some 4, .mov (.t 34), none, []⟩] [30, 31, 32, 33, 34]
def R_nat_long_5 : AC := .ops false [⟨some 35, .mov (.t 4), none, []⟩,
  ⟨some 36, .len (.t 35), none, []⟩,
  ⟨some 37, .bin .sub (.t 36) (.c (.int .i64 1)), none, []⟩,
  ⟨some 10, .mov (.t 37), none, []⟩] [35, 36, 37]
def R_nat_long_6 : AC := .ops false [⟨some 38, .mov (.t 10), none, []⟩,
  ⟨some 39, .bin .geq (.t 38) (.c (.int .i64 0)), none, []⟩] [38]
def R_nat_long_8 : AC := .ops false [⟨some 42, .mov (.t 7), none, []⟩,
  ⟨some 43, .mov (.t 10), none, []⟩,
  ⟨some 44, .mov (.t 10), none, []⟩,
  ⟨some 45, .mov (.t 9), none, []⟩,
  ⟨some 46, .bin .add (.t 44) (.t 45), none, []⟩,
  ⟨some 47, .bin .add (.t 46) (.c (.int .i64 1)), none, []⟩,
  ⟨some 48, .mov (.t 10), none, []⟩,
  ⟨some 49, .mov (.t 9), none, []⟩,
  ⟨some 50, .bin .add (.t 48) (.t 49), none, []⟩,
  ⟨some 51, .bin .add (.t 50) (.c (.int .i64 1)), none, []⟩,
  ⟨some 52, .slice 1 (.t 42) (some (.t 43)) (some (.t 47)) (some (.t 51)), none, []⟩,
  ⟨some 11, .mov (.t 52), none, []⟩] [39, 42, 43, 44, 45, 46, 47, 48, 49, 50, 51, 52]
def R_nat_long_9 : AC := .ops false [⟨some 53, .mov (.t 11), none, []⟩,
  ⟨some 54, .mov (.t 8), none, []⟩,
  ⟨some 55, .call (.fn 243) [.t 53, .t 54], none, []⟩,
  ⟨some 12, .mov (.t 55), none, []⟩] [53, 54, 55]
def R_nat_long_10 : AC := .ops false [⟨some 56, .mov (.t 11), none, []⟩,
  ⟨some 57, .mov (.t 8), none, []⟩,
  ⟨some 58, .mov (.t 12), none, []⟩,
  ⟨some 59, .call (.fn 244) [.t 56, .t 57, .t 58], none, []⟩] [56, 57, 58]
def R_nat_long_11 : AC := .ops false [⟨some 60, .mov (.t 12), none, []⟩,
  ⟨some 61, .bin .sub (.t 60) (.c (.int .u64 1)), none, []⟩,
  ⟨some 12, .mov (.t 61), none, []⟩] [59, 60, 61]
def R_nat_long_12 : AC := .ops false [⟨some 62, .mov (.t 11), none, []⟩,
  ⟨some 63, .mov (.t 8), none, []⟩,
  ⟨some 64, .call (.fn 245) [.t 62, .t 63], none, []⟩] [11, 62, 63, 64]
def R_nat_long_13 : AC := .ops false [⟨some 65, .mov (.t 4), none, []⟩,
  ⟨some 66, .mov (.t 10), none, []⟩,
  ⟨some 67, .mov (.t 12), none, []⟩,
  ⟨some 68, .conv .u32 (.t 67), none, []⟩,
  ⟨some 69, .ia 1 (.t 65) (.t 66), none, []⟩,
  ⟨none, .store 1 (.t 69) (.t 68), none, []⟩] [11, 12, 59, 65, 66, 67, 68, 69]
def R_nat_long_7 : AC := .ops false [⟨some 40, .mov (.t 10), none, []⟩,
  ⟨some 41, .bin .sub (.t 40) (.c (.int .i64 1)), none, []⟩,
  ⟨some 10, .mov (.t 41), none, []⟩] [40, 41]
def L_nat_long_1 : AC := (.seq (.seq R_nat_long_6 (.cond (.t 39) .skip (.exit 0))) (.seq (.block 1 (.seq R_nat_long_8 (.seq R_nat_long_9 (.seq (.seq R_nat_long_10 (.cond (.t 59) (.seq R_nat_long_11 R_nat_long_12) .skip)) R_nat_long_13)))) R_nat_long_7))
def R_nat_long_14 : AC := .ops false [⟨some 70, .mov (.t 9), none, []⟩,
  ⟨some 71, .mkslice 1 4 [.int .u32 0] (.t 70) (.t 70), none, []⟩,
  ⟨some 5, .mov (.t 71), none, []⟩] [8, 9, 10, 39, 70, 71]
def R_nat_long_15 : AC := .ops false [⟨some 72, .mov (.t 5), none, []⟩,
  ⟨some 73, .len (.t 72), none, []⟩,
  ⟨some 74, .mov (.c (.int .i64 0)), none, []⟩] [72]
def R_nat_long_16 : AC := .ops false [⟨some 75, .bin .lss (.t 74) (.t 73), none, []⟩] []
def R_nat_long_17 : AC := .ops false [⟨some 76, .mov (.t 74), none, []⟩,
  ⟨some 13, .mov (.t 76), none, []⟩] [75, 76]
def R_nat_long_18 : AC := .ops true [⟨some 77, .mov (.t 5), none, []⟩,
  ⟨some 78, .mov (.t 13), none, []⟩,
  ⟨some 79, .mov (.t 7), none, []⟩,
  ⟨some 80, .mov (.t 13), none, []⟩,
  ⟨some 81, .bin .add (.t 80) (.c (.int .i64 1)), none, [3]⟩,
  ⟨some 82, .ia 1 (.t 79) (.t 81), none, [2, 4]⟩,
  ⟨some 83, .load 1 true (.t 82), none, [5]⟩,
  ⟨some 84, .conv .u64 (.t 83), none, [6]⟩,
  ⟨some 85, .bin .shl (.t 84) (.c (.int .u64 32)), none, [7]⟩,
  ⟨some 86, .mov (.t 7), none, []⟩,
  ⟨some 87, .mov (.t 13), none, []⟩,
  ⟨some 88, .ia 1 (.t 86) (.t 87), none, [9, 10]⟩,
  ⟨some 89, .load 1 true (.t 88), none, [11]⟩,
  ⟨some 90, .conv .u64 (.t 89), none, [12]⟩,
  ⟨some 91, .bin .or (.t 85) (.t 90), none, [8, 13]⟩,
  ⟨some 92, .mov (.t 6), none, []⟩,
  ⟨some 93, .bin .shr (.t 91) (.t 92), none, [14, 15]⟩,
  ⟨some 94, .conv .u32 (.t 93), none, [16]⟩,
  ⟨some 95, .ia 1 (.t 77) (.t 78), none, [0, 1, 0, 1, 2, 3, 4, 5, 6, 7, 8, 9, 10, 11, 12, 13, 14, 15, 16, 17]⟩,
  ⟨none, .store 1 (.t 95) (.t 94), none, [18, 17, 0, 1, 2, 3, 4, 5, 6, 7, 8, 9, 10, 11, 12, 13, 14, 15, 16, 17]⟩] [13, 77, 78, 79, 80, 81, 82, 83, 84, 85, 86, 87, 88, 89, 90, 91, 92, 93, 94, 95]
def R_nat_long_19 : AC := .ops false [⟨some 96, .bin .add (.t 74) (.c (.int .i64 1)), none, []⟩,
  ⟨some 74, .mov (.t 96), none, []⟩] [96]
def L_nat_long_2 : AC := (.seq R_nat_long_16 (.seq (.cond (.t 75) .skip (.exit 2)) (.seq (.block 3 (.seq R_nat_long_17 R_nat_long_18)) R_nat_long_19)))
def R_nat_long_20 : AC := .ops false [⟨some 97, .mov (.t 4), none, []⟩,
  ⟨some 98, .call (.fn 43) [.t 97], none, []⟩,
  ⟨some 99, .mov (.t 5), none, []⟩,
  ⟨some 100, .call (.fn 43) [.t 99], none, []⟩,
  ⟨some 4, .mov (.t 98), none, []⟩,
  ⟨some 5, .mov (.t 100), none, []⟩] [6, 7, 73, 74, 75, 97, 98, 99, 100]
def F_nat_long : AFunc := { ntmps := 101, nargs := 2, kills := [[4, 5], [14, 15, 16, 17, 18, 19, 20], [0, 1, 21, 22, 23, 24, 25, 26, 27], [28, 29], [30, 31, 32, 33, 34], [35, 36, 37], [38], [40, 41], [39, 42, 43, 44, 45, 46, 47, 48, 49, 50, 51, 52], [53, 54, 55], [56, 57, 58], [59, 60, 61], [11, 62, 63, 64], [11, 12, 59, 65, 66, 67, 68, 69], [8, 9, 10, 39, 70, 71], [72], [], [75, 76], [13, 77, 78, 79, 80, 81, 82, 83, 84, 85, 86, 87, 88, 89, 90, 91, 92, 93, 94, 95], [96], [6, 7, 73, 74, 75, 97, 98, 99, 100]], results := [.t 4, .t 5], body := (.seq R_nat_long_0 (.seq R_nat_long_1 (.seq R_nat_long_2 (.seq R_nat_long_3 (.seq R_nat_long_4 (.seq (.seq R_nat_long_5 (.block 0 (.loop L_nat_long_1))) (.seq R_nat_long_14 (.seq (.seq R_nat_long_15 (.block 2 (.loop L_nat_long_2))) (.seq R_nat_long_20 .ret))))))))) }
noncomputable def T167 : { F : AFunc // CT.func [[4, 5], [14, 15, 16, 17, 18, 19, 20], [0, 1, 21, 22, 23, 24, 25, 26, 27], [28, 29], [30, 31, 32, 33, 34], [35, 36, 37], [38], [40, 41], [39, 42, 43, 44, 45, 46, 47, 48, 49, 50, 51, 52], [53, 54, 55], [56, 57, 58], [59, 60, 61], [11, 62, 63, 64], [11, 12, 59, 65, 66, 67, 68, 69], [8, 9, 10, 39, 70, 71], [72], [], [75, 76], [13, 77, 78, 79, 80, 81, 82, 83, 84, 85, 86, 87, 88, 89, 90, 91, 92, 93, 94, 95], [96], [6, 7, 73, 74, 75, 97, 98, 99, 100]] Tryz.f167 = some F } := ⟨F_nat_long, by kernel_rfl⟩
theorem c167 : Cert 167 T167.1 := cert_of T167.2 Tryz.func167
-- suffrage/nat.Same
noncomputable def T168 : { F : AFunc // CT.func [[4], [0, 1, 5, 6, 7]] Tryz.f168 = some F } := by
  refine ⟨?F, ?h⟩
  case h =>
    conv => lhs; cbv
theorem c168 : Cert 168 T168.1 := cert_of T168.2 Tryz.func168
-- suffrage/nat.Mul
noncomputable def T169 : { F : AFunc // CT.func [[4, 5], [10, 11, 12], [13], [0, 1, 6, 14, 15], [6, 14, 16, 17, 18, 19, 20, 21, 22], [1], [], [26, 27, 28, 29], [8, 9, 30, 31, 32, 33, 34, 35], [36], [0, 7, 23, 24, 25, 26, 37, 38, 39, 40]] Tryz.f169 = some F } := by
  refine ⟨?F, ?h⟩
  case h =>
    conv => lhs; cbv
theorem c169 : Cert 169 T169.1 := cert_of T169.2 Tryz.func169
-- slices.Clone[[]suffrage/api.Ratio,suffrage/api.Ratio]
noncomputable def T170 : { F : AFunc // CT.func [[2], [3], [0, 4], [0, 4, 5, 6, 7]] Tryz.f170 = some F } := by
  refine ⟨?F, ?h⟩
  case h =>
    conv => lhs; cbv
theorem c170 : Cert 170 T170.1 := cert_of T170.2 Tryz.func170
-- bytes.Clone
noncomputable def T171 : { F : AFunc // CT.func [[2], [3], [0, 4], [0, 4, 5, 6, 7]] Tryz.f171 = some F } := by
  refine ⟨?F, ?h⟩
  case h =>
    conv => lhs; cbv
theorem c171 : Cert 171 T171.1 := cert_of T171.2 Tryz.func171
-- suffrage/sheet.Boxes
noncomputable def T172 : { F : AFunc // CT.func [[0, 2, 3], [7, 8], [9], [1, 4, 10, 11], [4, 6, 10, 12, 13, 14, 15, 16, 17], [1, 5, 18, 19, 20, 21, 22, 23, 24, 25, 26]] Tryz.f172 = some F } := by
  refine ⟨?F, ?h⟩
  case h =>
    conv => lhs; cbv
theorem c172 : Cert 172 T172.1 := cert_of T172.2 Tryz.func172
-- suffrage/sheet.Check$1
noncomputable def T173 : { F : AFunc // CT.func [[2], [0, 3, 4]] Tryz.f173 = some F } := by
  refine ⟨?F, ?h⟩
  case h =>
    conv => lhs; cbv
theorem c173 : Cert 173 T173.1 := cert_of T173.2 Tryz.func173
-- (*suffrage/sheet.reader).ranks
def R_sheet_reader_ranks_0 : AC := .ops false [⟨some 2, .mov (.c (.int .i64 0)), none, []⟩] []
def R_sheet_reader_ranks_1 : AC := .ops false [⟨some 6, .mov (.t 0), none, []⟩,
  ⟨some 7, .nilchk (.t 6), none, []⟩,
  ⟨some 8, .fa (.t 7) 6, none, []⟩,
  ⟨some 9, .load 1 true (.t 8), none, []⟩,
  ⟨some 10, .mov (.c (.int .i64 0)), none, []⟩] [6, 7, 8]
def R_sheet_reader_ranks_2 : AC := .ops false [⟨some 11, .bin .lss (.t 10) (.t 9), none, []⟩] []
def R_sheet_reader_ranks_3 : AC := .ops false [⟨some 12, .mov (.t 10), none, []⟩,
  ⟨some 3, .mov (.t 12), none, []⟩] [11, 12]
def R_sheet_reader_ranks_4 : AC := .ops false [⟨some 4, .alloc [.lst 0 [] (some 0)], none, []⟩] []
def R_sheet_reader_ranks_5 : AC := .ops false [⟨some 13, .mov (.t 0), none, []⟩,
  ⟨some 14, .mov (.t 3), none, []⟩,
  ⟨some 15, .call (.fn 249) [.t 13, .t 14], none, []⟩] [3, 13, 14]
def R_sheet_reader_ranks_6 : AC := .ops false [⟨some 5, .mov (.t 16), none, []⟩] [0, 2, 9, 10, 15, 16]
def R_sheet_reader_ranks_7 : AC := .ops false [⟨some 17, .load 1 true (.t 4), none, []⟩,
  ⟨some 18, .mov (.t 5), none, []⟩,
  ⟨some 19, .bslice 1 [.int .i64 0] 1 [(0, .t 18)], none, []⟩,
  ⟨some 20, .append 1 8 (.t 17) (.t 19), none, []⟩,
  ⟨none, .store 1 (.t 4) (.t 20), none, []⟩] [4, 5, 17, 18, 19, 20]
def L_sheet_reader_ranks_1 : AC := (.block 3 R_sheet_reader_ranks_7)
def R_sheet_reader_ranks_8 : AC := .ops false [⟨some 22, .load 1 true (.t 4), none, []⟩,
  ⟨some 23, .len (.t 22), none, []⟩,
  ⟨some 24, .bin .gtr (.t 23) (.c (.int .i64 1)), none, []⟩,
  ⟨some 21, .mov (.t 24), none, []⟩] [15, 22, 23, 24]
def R_sheet_reader_ranks_9 : AC := .ops false [⟨some 25, .mov (.t 0), none, []⟩,
  ⟨some 26, .nilchk (.t 25), none, []⟩,
  ⟨some 27, .fa (.t 26) 0, none, []⟩,
  ⟨some 28, .fa (.t 27) 2, none, []⟩,
  ⟨none, .store 1 (.t 28) (.c (.int .i64 1)), none, []⟩] [0, 2, 4, 9, 10, 21, 25, 26, 27, 28]
def R_sheet_reader_ranks_10 : AC := .ops false [⟨some 30, .load 1 true (.t 4), none, []⟩,
  ⟨some 31, .len (.t 30), none, []⟩,
  ⟨some 32, .bin .eql (.t 31) (.c (.int .i64 0)), none, []⟩,
  ⟨some 29, .mov (.t 32), none, []⟩] [21, 30, 31, 32]
def R_sheet_reader_ranks_11 : AC := .ops false [⟨some 33, .mov (.t 2), none, []⟩,
  ⟨some 34, .bin .add (.t 33) (.c (.int .i64 1)), none, []⟩,
  ⟨some 2, .mov (.t 34), none, []⟩] [4, 29, 33, 34]
def R_sheet_reader_ranks_12 : AC := .ops false [⟨some 35, .mov (.t 2), none, []⟩,
  ⟨some 36, .mov (.t 0), none, []⟩,
  ⟨some 37, .nilchk (.t 36), none, []⟩,
  ⟨some 38, .fa (.t 37) 8, none, []⟩,
  ⟨some 39, .load 1 true (.t 38), none, []⟩,
  ⟨some 40, .bin .eql (.t 35) (.t 39), none, []⟩] [35, 36, 37, 38, 39]
def R_sheet_reader_ranks_13 : AC := .ops false [⟨some 2, .mov (.c (.int .i64 0)), none, []⟩] [29]
def R_sheet_reader_ranks_14 : AC := .ops true [⟨some 41, .mov (.t 0), none, []⟩,
  ⟨some 42, .nilchk (.t 41), none, [0]⟩,
  ⟨some 43, .fa (.t 42) 0, none, [1]⟩,
  ⟨some 44, .fa (.t 43) 0, none, [2]⟩,
  ⟨some 45, .fa (.t 44) 1, none, [3]⟩,
  ⟨some 46, .load 1 true (.t 45), none, [4]⟩,
  ⟨some 47, .load 1 true (.t 4), none, []⟩,
  ⟨some 48, .ia 1 (.t 47) (.c (.int .i64 0)), none, [6]⟩,
  ⟨some 49, .load 1 true (.t 48), none, [7]⟩,
  ⟨some 50, .call (.fn 198) [.t 46, .t 49], none, [5, 8]⟩,
  ⟨some 51, .un .not (.t 50), none, [9]⟩] [41, 42, 43, 44, 45, 46, 47, 48, 49, 50]
def R_sheet_reader_ranks_15 : AC := .ops true [⟨some 52, .mov (.t 0), none, []⟩,
  ⟨some 53, .mov (.t 0), none, []⟩,
  ⟨some 54, .nilchk (.t 53), none, [1]⟩,
  ⟨some 55, .fa (.t 54) 0, none, [2]⟩,
  ⟨some 56, .fa (.t 55) 0, none, [3]⟩,
  ⟨some 57, .fa (.t 56) 1, none, [4]⟩,
  ⟨some 58, .load 1 true (.t 57), none, [5]⟩,
  ⟨some 59, .load 1 true (.t 4), none, []⟩,
  ⟨some 60, .ia 1 (.t 59) (.c (.int .i64 0)), none, [7]⟩,
  ⟨some 61, .load 1 true (.t 60), none, [8]⟩,
  ⟨some 62, .bslice 1 [.int .i64 0] 1 [(0, .t 61)], none, [9]⟩,
  ⟨some 63, .append 1 8 (.t 58) (.t 62), none, [6, 10]⟩,
  ⟨some 64, .nilchk (.t 52), none, [0, 0, 1, 2, 3, 4, 5, 6, 7, 8, 9, 10, 11]⟩,
  ⟨some 65, .fa (.t 64) 0, none, [12, 0, 1, 2, 3, 4, 5, 6, 7, 8, 9, 10, 11]⟩,
  ⟨some 66, .fa (.t 65) 0, none, [13, 0, 1, 2, 3, 4, 5, 6, 7, 8, 9, 10, 11]⟩,
  ⟨some 67, .fa (.t 66) 1, none, [14, 0, 1, 2, 3, 4, 5, 6, 7, 8, 9, 10, 11]⟩,
  ⟨none, .store 1 (.t 67) (.t 63), none, [15, 11, 11, 0, 1, 2, 3, 4, 5, 6, 7, 8, 9, 10, 11]⟩] [4, 51, 52, 53, 54, 55, 56, 57, 58, 59, 60, 61, 62, 63, 64, 65, 66, 67]
def R_sheet_reader_ranks_16 : AC := .ops false [⟨some 68, .bin .add (.t 10) (.c (.int .i64 1)), none, []⟩,
  ⟨some 10, .mov (.t 68), none, []⟩] [4, 40, 51, 68]
def L_sheet_reader_ranks_2 : AC := (.seq R_sheet_reader_ranks_2 (.seq (.cond (.t 11) .skip (.exit 0)) (.seq (.block 1 (.seq R_sheet_reader_ranks_3 (.seq R_sheet_reader_ranks_4 (.seq (.seq R_sheet_reader_ranks_5 (.block 2 (.range (.t 15) [16] R_sheet_reader_ranks_6 L_sheet_reader_ranks_1))) (.seq (.block 4 (.seq R_sheet_reader_ranks_8 (.cond (.t 21) (.seq R_sheet_reader_ranks_9 (.exit 0)) (.seq R_sheet_reader_ranks_10 (.cond (.t 29) (.seq (.seq R_sheet_reader_ranks_11 (.seq R_sheet_reader_ranks_12 (.cond (.t 40) (.exit 0) .skip))) (.exit 1)) .skip))))) (.seq R_sheet_reader_ranks_13 (.seq R_sheet_reader_ranks_14 (.cond (.t 51) R_sheet_reader_ranks_15 .skip)))))))) R_sheet_reader_ranks_16)))
def F_sheet_reader_ranks : AFunc := { ntmps := 69, nargs := 1, kills := [[], [6, 7, 8], [], [11, 12], [], [3, 13, 14], [0, 2, 9, 10, 15, 16], [4, 5, 17, 18, 19, 20], [15, 22, 23, 24], [0, 2, 4, 9, 10, 21, 25, 26, 27, 28], [21, 30, 31, 32], [4, 29, 33, 34], [35, 36, 37, 38, 39], [29], [41, 42, 43, 44, 45, 46, 47, 48, 49, 50], [4, 51, 52, 53, 54, 55, 56, 57, 58, 59, 60, 61, 62, 63, 64, 65, 66, 67], [4, 40, 51, 68]], results := [], body := (.seq R_sheet_reader_ranks_0 (.seq .skip (.seq R_sheet_reader_ranks_1 (.block 0 (.loop L_sheet_reader_ranks_2))))) }
noncomputable def T174 : { F : AFunc // CT.func [[], [6, 7, 8], [], [11, 12], [], [3, 13, 14], [0, 2, 9, 10, 15, 16], [4, 5, 17, 18, 19, 20], [15, 22, 23, 24], [0, 2, 4, 9, 10, 21, 25, 26, 27, 28], [21, 30, 31, 32], [4, 29, 33, 34], [35, 36, 37, 38, 39], [29], [41, 42, 43, 44, 45, 46, 47, 48, 49, 50], [4, 51, 52, 53, 54, 55, 56, 57, 58, 59, 60, 61, 62, 63, 64, 65, 66, 67], [4, 40, 51, 68]] Tryz.f174 = some F } := ⟨F_sheet_reader_ranks, by kernel_rfl⟩
theorem c174 : Cert 174 T174.1 := cert_of T174.2 Tryz.func174
-- (*suffrage/sheet.reader).scored
def R_sheet_reader_scored_0 : AC := .ops false [⟨some 5, .mov (.t 0), none, []⟩,
  ⟨some 6, .mov (.t 0), none, []⟩,
  ⟨some 7, .nilchk (.t 6), none, []⟩,
  ⟨some 8, .fa (.t 7) 5, none, []⟩,
  ⟨some 9, .load 1 true (.t 8), none, []⟩,
  ⟨some 10, .mkslice 1 8 [.int .i64 0] (.t 9) (.t 9), none, []⟩,
  ⟨some 11, .nilchk (.t 5), none, []⟩,
  ⟨some 12, .fa (.t 11) 0, none, []⟩,
  ⟨some 13, .fa (.t 12) 0, none, []⟩,
  ⟨some 14, .fa (.t 13) 1, none, []⟩,
  ⟨none, .store 1 (.t 14) (.t 10), none, []⟩] [5, 6, 7, 8, 9, 10, 11, 12, 13, 14]
def R_sheet_reader_scored_1 : AC := .ops false [⟨some 15, .mov (.t 0), none, []⟩,
  ⟨some 16, .nilchk (.t 15), none, []⟩,
  ⟨some 17, .fa (.t 16) 5, none, []⟩,
  ⟨some 18, .load 1 true (.t 17), none, []⟩,
  ⟨some 19, .mov (.c (.int .i64 0)), none, []⟩] [15, 16, 17]
def R_sheet_reader_scored_2 : AC := .ops false [⟨some 20, .bin .lss (.t 19) (.t 18), none, []⟩] []
def R_sheet_reader_scored_3 : AC := .ops false [⟨some 21, .mov (.t 19), none, []⟩,
  ⟨some 2, .mov (.t 21), none, []⟩] [20, 21]
def R_sheet_reader_scored_4 : AC := .ops true [⟨some 22, .mov (.t 0), none, []⟩,
  ⟨some 23, .nilchk (.t 22), none, [0]⟩,
  ⟨some 24, .fa (.t 23) 4, none, [1]⟩,
  ⟨some 25, .load 1 true (.t 24), none, [2]⟩,
  ⟨some 26, .mov (.t 2), none, []⟩,
  ⟨some 27, .mov (.t 0), none, []⟩,
  ⟨some 28, .nilchk (.t 27), none, [5]⟩,
  ⟨some 29, .fa (.t 28) 6, none, [6]⟩,
  ⟨some 30, .load 1 true (.t 29), none, [7]⟩,
  ⟨some 31, .bin .mul (.t 26) (.t 30), none, [4, 8]⟩,
  ⟨some 32, .mov (.t 2), none, []⟩,
  ⟨some 33, .bin .add (.t 32) (.c (.int .i64 1)), none, [10]⟩,
  ⟨some 34, .mov (.t 0), none, []⟩,
  ⟨some 35, .nilchk (.t 34), none, [12]⟩,
  ⟨some 36, .fa (.t 35) 6, none, [13]⟩,
  ⟨some 37, .load 1 true (.t 36), none, [14]⟩,
  ⟨some 38, .bin .mul (.t 33) (.t 37), none, [11, 15]⟩,
  ⟨some 39, .slice 1 (.t 25) (some (.t 31)) (some (.t 38)) none, none, [3, 9, 16]⟩,
  ⟨some 3, .mov (.t 39), none, [17, 0, 1, 2, 3, 4, 5, 6, 7, 8, 9, 10, 11, 12, 13, 14, 15, 16, 17]⟩] [22, 23, 24, 25, 26, 27, 28, 29, 30, 31, 32, 33, 34, 35, 36, 37, 38, 39]
def R_sheet_reader_scored_5 : AC := .ops false [⟨some 40, .mov (.t 3), none, []⟩,
  ⟨some 41, .call (.fn 250) [.t 40, .c (.bool true)], none, []⟩,
  ⟨some 4, .mov (.t 41), none, []⟩] [40, 41]
def R_sheet_reader_scored_7 : AC := .ops false [⟨some 52, .mov (.t 4), none, []⟩,
  ⟨some 53, .bin .lss (.t 52) (.c (.int .i64 0)), none, []⟩,
  ⟨some 51, .mov (.t 53), none, []⟩] [52, 53]
def R_sheet_reader_scored_8 : AC := .ops false [⟨some 55, .mov (.t 3), none, []⟩,
  ⟨some 56, .mov (.t 4), none, []⟩,
  ⟨some 57, .bin .add (.t 56) (.c (.int .i64 1)), none, []⟩,
  ⟨some 58, .slice 1 (.t 55) (some (.t 57)) none none, none, []⟩,
  ⟨some 59, .call (.fn 251) [.t 58, .c (.bool true)], none, []⟩,
  ⟨some 54, .mov (.t 59), none, []⟩] [3, 51, 55, 56, 57, 58, 59]
def R_sheet_reader_scored_9 : AC := .ops false [⟨some 60, .mov (.t 0), none, []⟩,
  ⟨some 61, .nilchk (.t 60), none, []⟩,
  ⟨some 62, .fa (.t 61) 0, none, []⟩,
  ⟨some 63, .fa (.t 62) 2, none, []⟩,
  ⟨some 64, .load 1 true (.t 63), none, []⟩,
  ⟨some 65, .bin .add (.t 64) (.c (.int .i64 1)), none, []⟩,
  ⟨some 66, .nilchk (.t 60), none, []⟩,
  ⟨some 67, .fa (.t 66) 0, none, []⟩,
  ⟨some 68, .fa (.t 67) 2, none, []⟩,
  ⟨none, .store 1 (.t 68) (.t 65), none, []⟩] [2, 4, 54, 60, 61, 62, 63, 64, 65, 66, 67, 68]
def R_sheet_reader_scored_6 : AC := .ops false [⟨some 42, .mov (.t 0), none, []⟩,
  ⟨some 43, .nilchk (.t 42), none, []⟩,
  ⟨some 44, .fa (.t 43) 0, none, []⟩,
  ⟨some 45, .fa (.t 44) 0, none, []⟩,
  ⟨some 46, .fa (.t 45) 1, none, []⟩,
  ⟨some 47, .load 1 true (.t 46), none, []⟩,
  ⟨some 48, .mov (.t 2), none, []⟩,
  ⟨some 49, .mov (.t 4), none, []⟩,
  ⟨some 50, .ia 1 (.t 47) (.t 48), none, []⟩,
  ⟨none, .store 1 (.t 50) (.t 49), none, []⟩] [2, 4, 42, 43, 44, 45, 46, 47, 48, 49, 50, 54]
def R_sheet_reader_scored_10 : AC := .ops false [⟨some 69, .bin .add (.t 19) (.c (.int .i64 1)), none, []⟩,
  ⟨some 19, .mov (.t 69), none, []⟩] [2, 3, 4, 51, 69]
def L_sheet_reader_scored_1 : AC := (.seq R_sheet_reader_scored_2 (.seq (.cond (.t 20) .skip (.exit 0)) (.seq (.block 1 (.seq R_sheet_reader_scored_3 (.seq R_sheet_reader_scored_4 (.seq R_sheet_reader_scored_5 (.block 2 (.seq R_sheet_reader_scored_7 (.cond (.t 51) .skip (.seq R_sheet_reader_scored_8 (.cond (.t 54) R_sheet_reader_scored_9 R_sheet_reader_scored_6))))))))) R_sheet_reader_scored_10)))
def F_sheet_reader_scored : AFunc := { ntmps := 70, nargs := 1, kills := [[5, 6, 7, 8, 9, 10, 11, 12, 13, 14], [15, 16, 17], [], [20, 21], [22, 23, 24, 25, 26, 27, 28, 29, 30, 31, 32, 33, 34, 35, 36, 37, 38, 39], [40, 41], [2, 4, 42, 43, 44, 45, 46, 47, 48, 49, 50, 54], [52, 53], [3, 51, 55, 56, 57, 58, 59], [2, 4, 54, 60, 61, 62, 63, 64, 65, 66, 67, 68], [2, 3, 4, 51, 69]], results := [], body := (.seq R_sheet_reader_scored_0 (.seq R_sheet_reader_scored_1 (.block 0 (.loop L_sheet_reader_scored_1)))) }
noncomputable def T175 : { F : AFunc // CT.func [[5, 6, 7, 8, 9, 10, 11, 12, 13, 14], [15, 16, 17], [], [20, 21], [22, 23, 24, 25, 26, 27, 28, 29, 30, 31, 32, 33, 34, 35, 36, 37, 38, 39], [40, 41], [2, 4, 42, 43, 44, 45, 46, 47, 48, 49, 50, 54], [52, 53], [3, 51, 55, 56, 57, 58, 59], [2, 4, 54, 60, 61, 62, 63, 64, 65, 66, 67, 68], [2, 3, 4, 51, 69]] Tryz.f175 = some F } := ⟨F_sheet_reader_scored, by kernel_rfl⟩
theorem c175 : Cert 175 T175.1 := cert_of T175.2 Tryz.func175
-- (*suffrage/sheet.reader).marks
noncomputable def T176 : { F : AFunc // CT.func [[2, 3, 4, 5, 6, 7, 8, 9], [10, 11, 12, 13, 14, 15, 16, 17, 18, 19, 20], [0, 21, 22, 23, 24, 25, 26, 27, 28, 29, 30]] Tryz.f176 = some F } := by
  refine ⟨?F, ?h⟩
  case h =>
    conv => lhs; cbv
theorem c176 : Cert 176 T176.1 := cert_of T176.2 Tryz.func176
-- slices.BinarySearchFunc[[]suffrage/api.Row,suffrage/api.Row,[]int]
noncomputable def T177 : { F : AFunc // CT.func [[6, 7], [12, 13], [14], [15, 16], [17, 18, 19, 20, 21, 22, 23], [24, 25, 26, 27, 28, 29, 30], [11, 31, 32, 33], [11, 31, 34], [0, 1, 2, 8, 9, 10, 17, 35, 36, 37, 38, 39, 40, 41, 42, 43, 44, 45, 46, 47, 48]] Tryz.f177 = some F } := by
  refine ⟨?F, ?h⟩
  case h =>
    conv => lhs; cbv
theorem c177 : Cert 177 T177.1 := cert_of T177.2 Tryz.func177
-- suffrage/profile.place$1
noncomputable def T178 : { F : AFunc // CT.func [[0, 4], [1, 2, 5, 6, 7, 8]] Tryz.f178 = some F } := by
  refine ⟨?F, ?h⟩
  case h =>
    conv => lhs; cbv
theorem c178 : Cert 178 T178.1 := cert_of T178.2 Tryz.func178
end Go.Proofs.YtmkaekblmbjhpaaGreat
