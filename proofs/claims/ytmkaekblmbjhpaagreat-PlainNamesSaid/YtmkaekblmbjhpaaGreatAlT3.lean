/- The functions in the abstract language, worked out by Lean. -/
import Derived.Test.YtmkaekblmbjhpaaGreatAlX
set_option linter.unusedVariables false
set_option maxHeartbeats 1000000
set_option maxRecDepth 100000
namespace Go.Proofs.YtmkaekblmbjhpaaGreat
-- suffrage/record.Twin
def R_record_Twin_0 : AC := .ops false [⟨some 2, .mov (.c (.lst 0 [] (some 0))), none, []⟩] [2]
def R_record_Twin_1 : AC := .ops false [⟨some 6, .mov (.t 0), none, []⟩,
  ⟨some 7, .call (.fn 96) [.t 6], none, []⟩,
  ⟨some 3, .mov (.t 7), none, []⟩] [0, 6, 7]
def R_record_Twin_2 : AC := .ops false [⟨some 8, .mov (.t 3), none, []⟩,
  ⟨some 9, .len (.t 8), none, []⟩,
  ⟨some 10, .mov (.c (.int .i64 0)), none, []⟩] [8]
def R_record_Twin_3 : AC := .ops false [⟨some 11, .bin .lss (.t 10) (.t 9), none, []⟩] []
def R_record_Twin_4 : AC := .ops false [⟨some 12, .mov (.t 10), none, []⟩,
  ⟨some 4, .mov (.t 12), none, []⟩] [11, 12]
def R_record_Twin_5 : AC := .ops false [⟨some 13, .mov (.t 3), none, []⟩,
  ⟨some 14, .mov (.t 4), none, []⟩,
  ⟨some 15, .mov (.t 3), none, []⟩,
  ⟨some 16, .mov (.t 4), none, []⟩,
  ⟨some 17, .ia 2 (.t 15) (.t 16), none, []⟩,
  ⟨some 18, .fa (.t 17) 1, none, []⟩,
  ⟨some 19, .load 1 true (.t 18), none, []⟩,
  ⟨some 20, .call (.fn 97) [.t 19], none, []⟩,
  ⟨some 21, .ia 2 (.t 13) (.t 14), none, []⟩,
  ⟨some 22, .fa (.t 21) 1, none, []⟩,
  ⟨none, .store 1 (.t 22) (.t 20), none, []⟩] [13, 14, 15, 16, 17, 18, 19, 20, 21, 22]
def R_record_Twin_6 : AC := .ops false [⟨some 23, .mov (.t 3), none, []⟩,
  ⟨some 24, .mov (.t 4), none, []⟩,
  ⟨some 25, .ia 2 (.t 23) (.t 24), none, []⟩,
  ⟨some 26, .fa (.t 25) 1, none, []⟩,
  ⟨some 27, .load 1 true (.t 26), none, []⟩,
  ⟨some 28, .len (.t 27), none, []⟩,
  ⟨some 29, .mov (.c (.int .i64 0)), none, []⟩] [23, 24, 25, 26, 27]
def R_record_Twin_7 : AC := .ops false [⟨some 30, .bin .lss (.t 29) (.t 28), none, []⟩] []
def R_record_Twin_8 : AC := .ops false [⟨some 31, .mov (.t 29), none, []⟩,
  ⟨some 5, .mov (.t 31), none, []⟩] [30, 31]
def R_record_Twin_9 : AC := .ops true [⟨some 32, .mov (.t 3), none, []⟩,
  ⟨some 33, .mov (.t 4), none, []⟩,
  ⟨some 34, .ia 2 (.t 32) (.t 33), none, [0, 1]⟩,
  ⟨some 35, .fa (.t 34) 1, none, [2]⟩,
  ⟨some 36, .load 1 true (.t 35), none, [3]⟩,
  ⟨some 37, .mov (.t 5), none, []⟩,
  ⟨some 38, .mov (.t 3), none, []⟩,
  ⟨some 39, .mov (.t 4), none, []⟩,
  ⟨some 40, .ia 2 (.t 38) (.t 39), none, [6, 7]⟩,
  ⟨some 41, .fa (.t 40) 1, none, [8]⟩,
  ⟨some 42, .load 1 true (.t 41), none, [9]⟩,
  ⟨some 43, .mov (.t 5), none, []⟩,
  ⟨some 44, .ia 2 (.t 42) (.t 43), none, [10, 11]⟩,
  ⟨some 45, .load 2 false (.t 44), none, [12]⟩,
  ⟨some 46, .call (.fn 98) [.t 45], none, [13]⟩,
  ⟨some 47, .ia 2 (.t 36) (.t 37), none, [4, 5, 0, 1, 2, 3, 4, 5, 6, 7, 8, 9, 10, 11, 12, 13, 14]⟩,
  ⟨none, .store 2 (.t 47) (.t 46), none, [15, 14, 14, 0, 1, 2, 3, 4, 5, 6, 7, 8, 9, 10, 11, 12, 13, 14]⟩] [5, 32, 33, 34, 35, 36, 37, 38, 39, 40, 41, 42, 43, 44, 45, 46, 47]
def R_record_Twin_10 : AC := .ops false [⟨some 48, .bin .add (.t 29) (.c (.int .i64 1)), none, []⟩,
  ⟨some 29, .mov (.t 48), none, []⟩] [48]
def L_record_Twin_1 : AC := (.seq R_record_Twin_7 (.seq (.cond (.t 30) .skip (.exit 2)) (.seq (.block 3 (.seq R_record_Twin_8 R_record_Twin_9)) R_record_Twin_10)))
def R_record_Twin_11 : AC := .ops false [⟨some 49, .bin .add (.t 10) (.c (.int .i64 1)), none, []⟩,
  ⟨some 10, .mov (.t 49), none, []⟩] [4, 28, 29, 30, 49]
def L_record_Twin_2 : AC := (.seq R_record_Twin_3 (.seq (.cond (.t 11) .skip (.exit 0)) (.seq (.block 1 (.seq R_record_Twin_4 (.seq R_record_Twin_5 (.seq R_record_Twin_6 (.block 2 (.loop L_record_Twin_1)))))) R_record_Twin_11)))
def R_record_Twin_12 : AC := .ops false [⟨some 50, .mov (.t 3), none, []⟩,
  ⟨some 2, .mov (.t 50), none, []⟩] [3, 9, 10, 11, 50]
def F_record_Twin : AFunc := { ntmps := 51, nargs := 1, kills := [[2], [0, 6, 7], [8], [], [11, 12], [13, 14, 15, 16, 17, 18, 19, 20, 21, 22], [23, 24, 25, 26, 27], [], [30, 31], [5, 32, 33, 34, 35, 36, 37, 38, 39, 40, 41, 42, 43, 44, 45, 46, 47], [48], [4, 28, 29, 30, 49], [3, 9, 10, 11, 50]], results := [.t 2], body := (.seq R_record_Twin_0 (.seq R_record_Twin_1 (.seq (.seq R_record_Twin_2 (.block 0 (.loop L_record_Twin_2))) (.seq R_record_Twin_12 .ret)))) }
noncomputable def T51 : { F : AFunc // CT.func [[2], [0, 6, 7], [8], [], [11, 12], [13, 14, 15, 16, 17, 18, 19, 20, 21, 22], [23, 24, 25, 26, 27], [], [30, 31], [5, 32, 33, 34, 35, 36, 37, 38, 39, 40, 41, 42, 43, 44, 45, 46, 47], [48], [4, 28, 29, 30, 49], [3, 9, 10, 11, 50]] Tryz.f51 = some F } := ⟨F_record_Twin, by kernel_rfl⟩
theorem c51 : Cert 51 T51.1 := cert_of T51.2 Tryz.func51
-- suffrage/count.Twin
def R_count_Twin_0 : AC := .ops false [⟨some 1, .box (.t 0), none, []⟩,
  ⟨some 2, .alloc [.lst 0 [] (some 0), .lst 0 [] (some 0), .lst 0 [] (some 0)], none, []⟩] [0]
def R_count_Twin_1 : AC := .ops true [⟨some 6, .fa (.t 1) 0, none, []⟩,
  ⟨some 7, .load 1 true (.t 6), none, [0]⟩,
  ⟨some 8, .call (.fn 19) [.t 7], none, [1]⟩,
  ⟨some 9, .fa (.t 1) 1, none, []⟩,
  ⟨some 10, .load 1 true (.t 9), none, [3]⟩,
  ⟨some 11, .call (.fn 99) [.t 10], none, [4, 2]⟩,
  ⟨some 12, .fa (.t 1) 2, none, []⟩,
  ⟨some 13, .load 1 true (.t 12), none, [6]⟩,
  ⟨some 14, .call (.fn 100) [.t 13], none, [7, 5]⟩,
  ⟨some 15, .fa (.t 1) 0, none, [0, 1, 2, 3, 4, 6, 7]⟩,
  ⟨none, .store 1 (.t 15) (.t 8), none, [9, 2, 8, 0, 1, 2, 3, 4, 6, 7]⟩,
  ⟨some 16, .fa (.t 1) 1, none, [0, 1, 2, 3, 4, 5, 6, 7, 9, 10]⟩,
  ⟨none, .store 1 (.t 16) (.t 11), none, [11, 5, 10, 0, 1, 2, 3, 4, 5, 6, 7, 9, 10]⟩,
  ⟨some 17, .fa (.t 1) 2, none, [0, 1, 2, 3, 4, 5, 6, 7, 8, 9, 10, 11, 12]⟩,
  ⟨none, .store 1 (.t 17) (.t 14), none, [13, 8, 12, 0, 1, 2, 3, 4, 5, 6, 7, 8, 9, 10, 11, 12]⟩] [6, 7, 8, 9, 10, 11, 12, 13, 14, 15, 16, 17]
def R_count_Twin_2 : AC := .ops false [⟨some 18, .fa (.t 1) 1, none, []⟩,
  ⟨some 19, .load 1 true (.t 18), none, []⟩,
  ⟨some 20, .len (.t 19), none, []⟩,
  ⟨some 21, .mov (.c (.int .i64 0)), none, []⟩] [18]
def R_count_Twin_3 : AC := .ops false [⟨some 22, .bin .lss (.t 21) (.t 20), none, []⟩] []
def R_count_Twin_4 : AC := .ops false [⟨some 23, .mov (.t 21), none, []⟩,
  ⟨some 24, .ia 6 (.t 19) (.t 21), none, []⟩,
  ⟨some 25, .load 6 false (.t 24), none, []⟩,
  ⟨some 4, .alloc [.lst 0 [] (some 0), .bool false, .lst 0 [] (some 0), .lst 0 [] (some 0), .lst 0 [] (some 0), .lst 0 [] (some 0)], none, []⟩,
  ⟨some 3, .mov (.t 23), none, []⟩,
  ⟨none, .store 6 (.t 4) (.t 25), none, []⟩] [22, 23, 24, 25]
def R_count_Twin_5 : AC := .ops true [⟨some 26, .fa (.t 1) 1, none, []⟩,
  ⟨some 27, .load 1 true (.t 26), none, [0]⟩,
  ⟨some 28, .mov (.t 3), none, []⟩,
  ⟨some 29, .fa (.t 4) 0, none, []⟩,
  ⟨some 30, .load 1 true (.t 29), none, [3]⟩,
  ⟨some 31, .call (.fn 101) [.t 30], none, [4]⟩,
  ⟨some 32, .fa (.t 4) 1, none, []⟩,
  ⟨some 33, .load 3 false (.t 32), none, [6]⟩,
  ⟨some 34, .call (.fn 49) [.t 33], none, [7, 5]⟩,
  ⟨some 35, .fa (.t 4) 4, none, []⟩,
  ⟨some 36, .load 1 true (.t 35), none, [9]⟩,
  ⟨some 37, .call (.fn 19) [.t 36], none, [10, 8]⟩,
  ⟨some 38, .fa (.t 4) 5, none, []⟩,
  ⟨some 39, .load 1 true (.t 38), none, [12]⟩,
  ⟨some 40, .call (.fn 19) [.t 39], none, [13, 11]⟩,
  ⟨some 41, .build [.lst 0 [] (some 0), .bool false, .lst 0 [] (some 0), .lst 0 [] (some 0), .lst 0 [] (some 0), .lst 0 [] (some 0)] [(0, 1, .t 31), (1, 3, .t 34), (4, 1, .t 37), (5, 1, .t 40)], none, [5, 8, 11, 14]⟩,
  ⟨some 42, .ia 6 (.t 27) (.t 28), none, [1, 2, 0, 1, 2, 3, 4, 5, 6, 7, 8, 9, 10, 11, 12, 13, 14, 15]⟩,
  ⟨none, .store 6 (.t 42) (.t 41), none, [16, 15, 14, 0, 1, 2, 3, 4, 5, 6, 7, 8, 9, 10, 11, 12, 13, 14, 15]⟩] [3, 4, 26, 27, 28, 29, 30, 31, 32, 33, 34, 35, 36, 37, 38, 39, 40, 41, 42]
def R_count_Twin_6 : AC := .ops false [⟨some 43, .bin .add (.t 21) (.c (.int .i64 1)), none, []⟩,
  ⟨some 21, .mov (.t 43), none, []⟩] [43]
def L_count_Twin_1 : AC := (.seq R_count_Twin_3 (.seq (.cond (.t 22) .skip (.exit 0)) (.seq (.block 1 (.seq R_count_Twin_4 R_count_Twin_5)) R_count_Twin_6)))
def R_count_Twin_7 : AC := .ops false [⟨some 44, .fa (.t 1) 2, none, []⟩,
  ⟨some 45, .load 1 true (.t 44), none, []⟩,
  ⟨some 46, .len (.t 45), none, []⟩,
  ⟨some 47, .mov (.c (.int .i64 0)), none, []⟩] [19, 20, 21, 22, 44, 45]
def R_count_Twin_8 : AC := .ops false [⟨some 48, .bin .lss (.t 47) (.t 46), none, []⟩] []
def R_count_Twin_9 : AC := .ops false [⟨some 49, .mov (.t 47), none, []⟩,
  ⟨some 5, .mov (.t 49), none, []⟩] [48, 49]
def R_count_Twin_10 : AC := .ops true [⟨some 50, .fa (.t 1) 2, none, []⟩,
  ⟨some 51, .load 1 true (.t 50), none, [0]⟩,
  ⟨some 52, .mov (.t 5), none, []⟩,
  ⟨some 53, .fa (.t 1) 2, none, []⟩,
  ⟨some 54, .load 1 true (.t 53), none, [3]⟩,
  ⟨some 55, .mov (.t 5), none, []⟩,
  ⟨some 56, .ia 2 (.t 54) (.t 55), none, [4, 5]⟩,
  ⟨some 57, .fa (.t 56) 0, none, [6]⟩,
  ⟨some 58, .load 1 true (.t 57), none, [7]⟩,
  ⟨some 59, .call (.fn 19) [.t 58], none, [8]⟩,
  ⟨some 60, .ia 2 (.t 51) (.t 52), none, [1, 2, 0, 1, 2, 3, 4, 5, 6, 7, 8, 9]⟩,
  ⟨some 61, .fa (.t 60) 0, none, [10, 0, 1, 2, 3, 4, 5, 6, 7, 8, 9]⟩,
  ⟨none, .store 1 (.t 61) (.t 59), none, [11, 9, 9, 0, 1, 2, 3, 4, 5, 6, 7, 8, 9]⟩] [5, 50, 51, 52, 53, 54, 55, 56, 57, 58, 59, 60, 61]
def R_count_Twin_11 : AC := .ops false [⟨some 62, .bin .add (.t 47) (.c (.int .i64 1)), none, []⟩,
  ⟨some 47, .mov (.t 62), none, []⟩] [62]
def L_count_Twin_2 : AC := (.seq R_count_Twin_8 (.seq (.cond (.t 48) .skip (.exit 2)) (.seq (.block 3 (.seq R_count_Twin_9 R_count_Twin_10)) R_count_Twin_11)))
def R_count_Twin_12 : AC := .ops false [⟨some 63, .load 3 false (.t 1), none, []⟩,
  ⟨none, .store 3 (.t 2) (.t 63), none, []⟩] [1, 46, 47, 48, 63]
def F_count_Twin : AFunc := { ntmps := 64, nargs := 1, kills := [[0], [6, 7, 8, 9, 10, 11, 12, 13, 14, 15, 16, 17], [18], [], [22, 23, 24, 25], [3, 4, 26, 27, 28, 29, 30, 31, 32, 33, 34, 35, 36, 37, 38, 39, 40, 41, 42], [43], [19, 20, 21, 22, 44, 45], [], [48, 49], [5, 50, 51, 52, 53, 54, 55, 56, 57, 58, 59, 60, 61], [62], [1, 46, 47, 48, 63]], results := [.cell 2 3 false], body := (.seq R_count_Twin_0 (.seq R_count_Twin_1 (.seq (.seq R_count_Twin_2 (.block 0 (.loop L_count_Twin_1))) (.seq (.seq R_count_Twin_7 (.block 2 (.loop L_count_Twin_2))) (.seq R_count_Twin_12 .ret))))) }
noncomputable def T52 : { F : AFunc // CT.func [[0], [6, 7, 8, 9, 10, 11, 12, 13, 14, 15, 16, 17], [18], [], [22, 23, 24, 25], [3, 4, 26, 27, 28, 29, 30, 31, 32, 33, 34, 35, 36, 37, 38, 39, 40, 41, 42], [43], [19, 20, 21, 22, 44, 45], [], [48, 49], [5, 50, 51, 52, 53, 54, 55, 56, 57, 58, 59, 60, 61], [62], [1, 46, 47, 48, 63]] Tryz.f52 = some F } := ⟨F_count_Twin, by kernel_rfl⟩
theorem c52 : Cert 52 T52.1 := cert_of T52.2 Tryz.func52
-- suffrage/board.Twin
noncomputable def T53 : { F : AFunc // CT.func [[0], [], [1, 6], [], [10, 11, 12], [5, 13, 14, 15, 16, 17, 18, 19], [20], [3, 7, 8, 9, 10, 21]] Tryz.f53 = some F } := by
  refine ⟨?F, ?h⟩
  case h =>
    conv => lhs; cbv
theorem c53 : Cert 53 T53.1 := cert_of T53.2 Tryz.func53
-- suffrage/plain.named
noncomputable def T54 : { F : AFunc // CT.func [[2], [4], [], [7, 8], [3, 9, 10, 11, 12, 13, 14, 15, 16, 17], [0, 5, 6, 18], [18, 19], [0, 5, 6, 7, 20, 21, 22, 23, 24, 25, 26]] Tryz.f54 = some F } := by
  refine ⟨?F, ?h⟩
  case h =>
    conv => lhs; cbv
theorem c54 : Cert 54 T54.1 := cert_of T54.2 Tryz.func54
-- suffrage/sheet.Read
def R_sheet_Read_0 : AC := .ops false [⟨some 4, .box (.t 0), none, []⟩,
  ⟨some 5, .box (.t 1), none, []⟩,
  ⟨some 6, .box (.t 2), none, []⟩,
  ⟨some 8, .alloc [.int .u8 0, .lst 0 [] (some 0), .int .i64 0, .lst 0 [] (some 0)], none, []⟩,
  ⟨some 9, .mov (.c (.int .i64 0)), none, []⟩] [0, 1, 2, 9]
def R_sheet_Read_1 : AC := .ops false [⟨some 22, .load 4 false (.t 4), none, []⟩,
  ⟨some 23, .load 1 false (.t 6), none, []⟩,
  ⟨some 24, .call (.fn 103) [.t 22, .t 23], none, []⟩,
  ⟨some 9, .mov (.t 24), none, []⟩] [22, 23, 24]
def R_sheet_Read_2 : AC := .ops false [⟨some 25, .mov (.t 9), none, []⟩,
  ⟨some 26, .bin .neq (.t 25) (.c (.int .i64 0)), none, []⟩] [25]
def R_sheet_Read_3 : AC := .ops false [⟨some 27, .load 4 false (.t 8), none, []⟩,
  ⟨some 28, .mov (.t 9), none, []⟩,
  ⟨none, .store 4 (.t 8) (.t 27), none, []⟩,
  ⟨some 9, .mov (.t 28), none, []⟩] [3, 4, 5, 6, 26, 27, 28]
def R_sheet_Read_4 : AC := .ops false [⟨some 29, .fa (.t 5) 0, none, []⟩,
  ⟨some 30, .load 1 true (.t 29), none, []⟩,
  ⟨some 31, .bin .lss (.t 30) (.c (.int .u8 1)), none, []⟩,
  ⟨some 32, .mov (.t 31), none, []⟩,
  ⟨some 33, .fa (.t 5) 0, some (32, false), []⟩,
  ⟨some 34, .load 1 true (.t 33), some (32, false), []⟩,
  ⟨some 35, .fa (.t 5) 1, some (32, false), []⟩,
  ⟨some 36, .load 1 true (.t 35), some (32, false), []⟩,
  ⟨some 37, .bin .gtr (.t 34) (.t 36), some (32, false), []⟩,
  ⟨some 38, .pick (.t 32) (.c (.bool true)) (.t 37), none, []⟩,
  ⟨some 39, .mov (.t 38), none, []⟩,
  ⟨some 40, .fa (.t 5) 1, some (39, false), []⟩,
  ⟨some 41, .load 1 true (.t 40), some (39, false), []⟩,
  ⟨some 42, .bin .gtr (.t 41) (.c (.int .u8 100)), some (39, false), []⟩,
  ⟨some 43, .pick (.t 39) (.c (.bool true)) (.t 42), none, []⟩,
  ⟨some 44, .mov (.t 43), none, []⟩,
  ⟨some 45, .fa (.t 5) 2, some (44, false), []⟩,
  ⟨some 46, .load 1 true (.t 45), some (44, false), []⟩,
  ⟨some 47, .bin .lss (.t 46) (.c (.int .i64 0)), some (44, false), []⟩,
  ⟨some 48, .pick (.t 44) (.c (.bool true)) (.t 47), none, []⟩,
  ⟨some 49, .mov (.t 48), none, []⟩,
  ⟨some 50, .fa (.t 5) 2, some (49, false), []⟩,
  ⟨some 51, .load 1 true (.t 50), some (49, false), []⟩,
  ⟨some 52, .bin .gtr (.t 51) (.c (.int .i64 10)), some (49, false), []⟩,
  ⟨some 53, .pick (.t 49) (.c (.bool true)) (.t 52), none, []⟩] [9, 26, 29, 30, 31, 32, 33, 34, 35, 36, 37, 38, 39, 40, 41, 42, 43, 44, 45, 46, 47, 48, 49, 50, 51, 52]
def R_sheet_Read_5 : AC := .ops false [⟨some 54, .load 4 false (.t 8), none, []⟩,
  ⟨none, .store 4 (.t 8) (.t 54), none, []⟩,
  ⟨some 9, .mov (.c (.int .i64 2)), none, []⟩] [3, 4, 5, 6, 53, 54]
def R_sheet_Read_6 : AC := .ops false [⟨some 55, .mov (.t 3), none, []⟩,
  ⟨some 56, .len (.t 55), none, []⟩,
  ⟨some 57, .fa (.t 6) 0, none, []⟩,
  ⟨some 58, .load 1 true (.t 57), none, []⟩,
  ⟨some 59, .len (.t 58), none, []⟩,
  ⟨some 60, .bin .gtr (.t 56) (.t 59), none, []⟩] [53, 55, 56, 57, 58, 59]
def R_sheet_Read_7 : AC := .ops false [⟨some 61, .load 4 false (.t 8), none, []⟩,
  ⟨none, .store 4 (.t 8) (.t 61), none, []⟩,
  ⟨some 9, .mov (.c (.int .i64 4)), none, []⟩] [3, 4, 5, 6, 60, 61]
def R_sheet_Read_8 : AC := .ops false [⟨some 63, .fa (.t 4) 3, none, []⟩,
  ⟨some 64, .load 1 true (.t 63), none, []⟩,
  ⟨some 65, .call (.fn 16) [.t 64], none, []⟩,
  ⟨some 62, .mov (.t 65), none, []⟩,
  ⟨some 66, .ext (.t 62) 0, none, []⟩,
  ⟨some 67, .ext (.t 62) 1, none, []⟩,
  ⟨some 10, .mov (.t 66), none, []⟩,
  ⟨some 11, .mov (.t 67), none, []⟩] [11, 60, 62, 63, 64, 65, 66, 67]
def R_sheet_Read_9 : AC := .ops false [⟨some 69, .fa (.t 4) 3, none, []⟩,
  ⟨some 70, .load 1 true (.t 69), none, []⟩,
  ⟨some 71, .fa (.t 4) 1, none, []⟩,
  ⟨some 72, .load 1 true (.t 71), none, []⟩,
  ⟨some 73, .len (.t 72), none, []⟩,
  ⟨some 74, .call (.fn 104) [.t 70, .t 73], none, []⟩,
  ⟨some 68, .mov (.t 74), none, []⟩,
  ⟨some 75, .ext (.t 68) 0, none, []⟩,
  ⟨some 76, .ext (.t 68) 1, none, []⟩,
  ⟨some 12, .mov (.t 75), none, []⟩,
  ⟨some 13, .mov (.t 76), none, []⟩] [13, 68, 69, 70, 71, 72, 73, 74, 75, 76]
def R_sheet_Read_10 : AC := .ops true [⟨some 77, .fa (.t 6) 0, none, []⟩,
  ⟨some 78, .load 1 true (.t 77), none, [0]⟩,
  ⟨some 79, .len (.t 78), none, [1]⟩,
  ⟨some 80, .mkslice 1 1 [.bool false] (.t 79) (.t 79), none, [2, 2]⟩,
  ⟨some 81, .fa (.t 4) 1, none, []⟩,
  ⟨some 82, .load 1 true (.t 81), none, [4]⟩,
  ⟨some 83, .len (.t 82), none, [5]⟩,
  ⟨some 84, .mov (.t 10), none, []⟩,
  ⟨some 85, .fa (.t 4) 1, none, []⟩,
  ⟨some 86, .load 1 true (.t 85), none, [8]⟩,
  ⟨some 87, .len (.t 86), none, [9]⟩,
  ⟨some 88, .call (.fn 105) [.t 84, .t 87], none, [7, 10]⟩,
  ⟨some 89, .mov (.t 12), none, []⟩,
  ⟨some 90, .fa (.t 5) 2, none, []⟩,
  ⟨some 91, .load 1 true (.t 90), none, [13]⟩,
  ⟨some 92, .build [.int .u8 0, .lst 0 [] (some 0), .int .i64 0, .lst 0 [] (some 0), .lst 0 [] (some 0), .int .i64 0, .int .i64 0, .int .i64 0, .int .i64 0] [(4, 1, .t 80), (5, 1, .t 83), (6, 1, .t 88), (7, 1, .t 89), (8, 1, .t 91)], none, [3, 6, 11, 12, 14]⟩,
  ⟨some 93, .box (.t 92), none, [15]⟩,
  ⟨some 14, .mov (.t 93), none, [16, 11, 0, 1, 2, 3, 4, 5, 6, 7, 8, 9, 10, 11, 12, 13, 14, 15, 16]⟩] [4, 12, 77, 78, 79, 80, 81, 82, 83, 84, 85, 86, 87, 88, 89, 90, 91, 92, 93]
def R_sheet_Read_11 : AC := .ops false [⟨some 94, .fa (.t 6) 0, none, []⟩,
  ⟨some 95, .load 1 true (.t 94), none, []⟩,
  ⟨some 96, .len (.t 95), none, []⟩,
  ⟨some 97, .mkslice 1 1 [.bool false] (.t 96) (.t 96), none, []⟩,
  ⟨some 15, .mov (.t 97), none, []⟩] [94, 95, 96, 97]
def R_sheet_Read_12 : AC := .ops false [⟨some 98, .fa (.t 6) 0, none, []⟩,
  ⟨some 99, .load 1 true (.t 98), none, []⟩,
  ⟨some 100, .len (.t 99), none, []⟩,
  ⟨some 101, .mov (.c (.int .i64 0)), none, []⟩] [6, 98]
def R_sheet_Read_13 : AC := .ops false [⟨some 102, .bin .lss (.t 101) (.t 100), none, []⟩] []
def R_sheet_Read_14 : AC := .ops false [⟨some 103, .mov (.t 101), none, []⟩,
  ⟨some 104, .ia 1 (.t 99) (.t 101), none, []⟩,
  ⟨some 105, .load 1 true (.t 104), none, []⟩,
  ⟨some 16, .mov (.t 103), none, []⟩,
  ⟨some 17, .mov (.t 105), none, []⟩] [102, 103, 104, 105]
def R_sheet_Read_15 : AC := .ops true [⟨some 106, .mov (.t 14), none, []⟩,
  ⟨some 107, .nilchk (.t 106), none, [0]⟩,
  ⟨some 108, .fa (.t 107) 4, none, [1]⟩,
  ⟨some 109, .load 1 true (.t 108), none, [2]⟩,
  ⟨some 110, .mov (.t 16), none, []⟩,
  ⟨some 111, .mov (.t 15), none, []⟩,
  ⟨some 112, .mov (.t 16), none, []⟩,
  ⟨some 113, .mov (.t 17), none, []⟩,
  ⟨some 114, .fa (.t 5) 1, none, []⟩,
  ⟨some 115, .load 1 true (.t 114), none, [8]⟩,
  ⟨some 116, .bin .geq (.t 113) (.t 115), none, [7, 9]⟩,
  ⟨some 117, .mov (.t 17), none, []⟩,
  ⟨some 118, .fa (.t 5) 0, none, []⟩,
  ⟨some 119, .load 1 true (.t 118), none, [12]⟩,
  ⟨some 120, .bin .geq (.t 117) (.t 119), none, [11, 13]⟩,
  ⟨some 121, .mov (.t 120), none, [14]⟩,
  ⟨some 122, .mov (.t 17), some (121, true), [15]⟩,
  ⟨some 123, .fa (.t 5) 1, some (121, true), [15]⟩,
  ⟨some 124, .load 1 true (.t 123), some (121, true), [17, 15]⟩,
  ⟨some 125, .bin .lss (.t 122) (.t 124), some (121, true), [16, 18, 15]⟩,
  ⟨some 126, .pick (.t 121) (.t 125) (.c (.bool false)), none, [15, 19]⟩,
  ⟨some 127, .ia 1 (.t 109) (.t 110), none, [3, 4, 0, 1, 2, 3, 4, 7, 8, 9, 10]⟩,
  ⟨none, .store 1 (.t 127) (.t 116), none, [21, 10, 15, 0, 1, 2, 3, 4, 7, 8, 9, 10]⟩,
  ⟨some 128, .ia 1 (.t 111) (.t 112), none, [5, 6, 0, 1, 2, 3, 4, 5, 6, 7, 8, 9, 10, 11, 12, 13, 14, 15, 16, 17, 18, 19, 20, 21, 22]⟩,
  ⟨none, .store 1 (.t 128) (.t 126), none, [23, 20, 22, 0, 1, 2, 3, 4, 5, 6, 7, 8, 9, 10, 11, 12, 13, 14, 15, 16, 17, 18, 19, 20, 21, 22]⟩] [16, 17, 106, 107, 108, 109, 110, 111, 112, 113, 114, 115, 116, 117, 118, 119, 120, 121, 122, 123, 124, 125, 126, 127, 128]
def R_sheet_Read_16 : AC := .ops false [⟨some 129, .bin .add (.t 101) (.c (.int .i64 1)), none, []⟩,
  ⟨some 101, .mov (.t 129), none, []⟩] [129]
def L_sheet_Read_1 : AC := (.seq R_sheet_Read_13 (.seq (.cond (.t 102) .skip (.exit 0)) (.seq (.block 1 (.seq R_sheet_Read_14 R_sheet_Read_15)) R_sheet_Read_16)))
def R_sheet_Read_17 : AC := .ops false [⟨some 130, .mov (.t 3), none, []⟩,
  ⟨some 131, .len (.t 130), none, []⟩,
  ⟨some 132, .mov (.c (.int .i64 0)), none, []⟩] [3, 5, 99, 100, 101, 102]
def R_sheet_Read_18 : AC := .ops false [⟨some 133, .bin .lss (.t 132) (.t 131), none, []⟩] []
def R_sheet_Read_19 : AC := .ops false [⟨some 134, .ia 2 (.t 130) (.t 132), none, []⟩,
  ⟨some 135, .load 2 false (.t 134), none, []⟩,
  ⟨some 19, .alloc [.int .i64 0, .bool false], none, []⟩,
  ⟨none, .store 2 (.t 19) (.t 135), none, []⟩] [133, 134, 135]
def R_sheet_Read_20 : AC := .ops false [⟨some 136, .fa (.t 19) 0, none, []⟩,
  ⟨some 137, .load 1 true (.t 136), none, []⟩,
  ⟨some 138, .bin .lss (.t 137) (.c (.int .i64 0)), none, []⟩,
  ⟨some 139, .mov (.t 138), none, []⟩,
  ⟨some 140, .fa (.t 19) 0, some (139, false), []⟩,
  ⟨some 141, .load 1 true (.t 140), some (139, false), []⟩,
  ⟨some 142, .mov (.t 15), some (139, false), []⟩,
  ⟨some 143, .len (.t 142), some (139, false), []⟩,
  ⟨some 144, .bin .geq (.t 141) (.t 143), some (139, false), []⟩,
  ⟨some 145, .pick (.t 139) (.c (.bool true)) (.t 144), none, []⟩,
  ⟨some 146, .mov (.t 145), none, []⟩,
  ⟨some 147, .mov (.t 15), some (146, false), []⟩,
  ⟨some 148, .fa (.t 19) 0, some (146, false), []⟩,
  ⟨some 149, .load 1 true (.t 148), some (146, false), []⟩,
  ⟨some 150, .ia 1 (.t 147) (.t 149), some (146, false), []⟩,
  ⟨some 151, .load 1 true (.t 150), some (146, false), []⟩,
  ⟨some 152, .un .not (.t 151), some (146, false), []⟩,
  ⟨some 153, .pick (.t 146) (.c (.bool true)) (.t 152), none, []⟩] [136, 137, 138, 139, 140, 141, 142, 143, 144, 145, 146, 147, 148, 149, 150, 151, 152]
def R_sheet_Read_21 : AC := .ops false [⟨some 154, .load 4 false (.t 8), none, []⟩,
  ⟨none, .store 4 (.t 8) (.t 154), none, []⟩,
  ⟨some 9, .mov (.c (.int .i64 2)), none, []⟩] [10, 14, 15, 19, 130, 131, 132, 153, 154]
def R_sheet_Read_22 : AC := .ops true [⟨some 155, .mov (.t 14), none, []⟩,
  ⟨some 156, .nilchk (.t 155), none, [0]⟩,
  ⟨some 157, .fa (.t 156) 4, none, [1]⟩,
  ⟨some 158, .load 1 true (.t 157), none, [2]⟩,
  ⟨some 159, .fa (.t 19) 0, none, []⟩,
  ⟨some 160, .load 1 true (.t 159), none, [4]⟩,
  ⟨some 161, .mov (.t 15), none, []⟩,
  ⟨some 162, .fa (.t 19) 0, none, []⟩,
  ⟨some 163, .load 1 true (.t 162), none, [7]⟩,
  ⟨some 164, .fa (.t 19) 1, none, []⟩,
  ⟨some 165, .load 1 true (.t 164), none, [9]⟩,
  ⟨some 166, .ia 1 (.t 158) (.t 160), none, [3, 5, 0, 1, 2, 3, 4, 5, 9, 10]⟩,
  ⟨none, .store 1 (.t 166) (.t 165), none, [11, 10, 0, 1, 2, 3, 4, 5, 9, 10]⟩,
  ⟨some 167, .ia 1 (.t 161) (.t 163), none, [6, 8, 0, 1, 2, 3, 4, 5, 6, 7, 8, 9, 10, 11, 12]⟩,
  ⟨none, .store 1 (.t 167) (.c (.bool false)), none, [13, 12, 0, 1, 2, 3, 4, 5, 6, 7, 8, 9, 10, 11, 12]⟩] [19, 153, 155, 156, 157, 158, 159, 160, 161, 162, 163, 164, 165, 166, 167]
def R_sheet_Read_23 : AC := .ops false [⟨some 168, .bin .add (.t 132) (.c (.int .i64 1)), none, []⟩,
  ⟨some 132, .mov (.t 168), none, []⟩] [168]
def L_sheet_Read_2 : AC := (.seq R_sheet_Read_18 (.seq (.cond (.t 133) .skip (.exit 2)) (.seq (.block 3 (.seq R_sheet_Read_19 (.seq (.seq R_sheet_Read_20 (.cond (.t 153) (.seq R_sheet_Read_21 .ret) .skip)) R_sheet_Read_22))) R_sheet_Read_23)))
def R_sheet_Read_24 : AC := .ops false [⟨some 169, .mov (.t 15), none, []⟩,
  ⟨some 170, .len (.t 169), none, []⟩,
  ⟨some 171, .mov (.c (.int .i64 0)), none, []⟩] [15, 130, 131, 132, 133]
def R_sheet_Read_25 : AC := .ops false [⟨some 172, .bin .lss (.t 171) (.t 170), none, []⟩] []
def R_sheet_Read_26 : AC := .ops false [⟨some 173, .mov (.t 171), none, []⟩,
  ⟨some 174, .ia 1 (.t 169) (.t 171), none, []⟩,
  ⟨some 175, .load 1 true (.t 174), none, []⟩,
  ⟨some 20, .mov (.t 173), none, []⟩,
  ⟨some 21, .mov (.t 175), none, []⟩] [172, 173, 174, 175]
def R_sheet_Read_27 : AC := .ops false [⟨some 176, .mov (.t 21), none, []⟩] [21]
def R_sheet_Read_28 : AC := .ops false [⟨some 177, .mov (.t 14), none, []⟩,
  ⟨some 178, .mov (.t 14), none, []⟩,
  ⟨some 179, .nilchk (.t 178), none, []⟩,
  ⟨some 180, .fa (.t 179) 0, none, []⟩,
  ⟨some 181, .fa (.t 180) 3, none, []⟩,
  ⟨some 182, .load 1 true (.t 181), none, []⟩,
  ⟨some 183, .mov (.t 20), none, []⟩,
  ⟨some 184, .bslice 1 [.int .i64 0] 1 [(0, .t 183)], none, []⟩,
  ⟨some 185, .append 1 8 (.t 182) (.t 184), none, []⟩,
  ⟨some 186, .nilchk (.t 177), none, []⟩,
  ⟨some 187, .fa (.t 186) 0, none, []⟩,
  ⟨some 188, .fa (.t 187) 3, none, []⟩,
  ⟨none, .store 1 (.t 188) (.t 185), none, []⟩] [20, 176, 177, 178, 179, 180, 181, 182, 183, 184, 185, 186, 187, 188]
def R_sheet_Read_29 : AC := .ops false [⟨some 189, .bin .add (.t 171) (.c (.int .i64 1)), none, []⟩,
  ⟨some 171, .mov (.t 189), none, []⟩] [20, 176, 189]
def L_sheet_Read_3 : AC := (.seq R_sheet_Read_25 (.seq (.cond (.t 172) .skip (.exit 4)) (.seq (.block 5 (.seq R_sheet_Read_26 (.seq R_sheet_Read_27 (.cond (.t 176) R_sheet_Read_28 .skip)))) R_sheet_Read_29)))
def R_sheet_Read_30 : AC := .ops false [⟨some 190, .mov (.t 14), none, []⟩,
  ⟨some 191, .mov (.t 10), none, []⟩,
  ⟨some 192, .nilchk (.t 190), none, []⟩,
  ⟨some 193, .fa (.t 192) 0, none, []⟩,
  ⟨some 194, .fa (.t 193) 0, none, []⟩,
  ⟨some 195, .fa (.t 194) 0, none, []⟩,
  ⟨none, .store 1 (.t 195) (.t 191), none, []⟩] [169, 170, 171, 172, 190, 191, 192, 193, 194, 195]
def R_sheet_Read_31 : AC := .ops false [⟨some 196, .mov (.t 10), none, []⟩,
  ⟨some 197, .call (.fn 106) [.t 196], none, []⟩,
  ⟨some 198, .mov (.t 14), none, []⟩,
  ⟨some 199, .call (.dyn (.t 197)) [.t 198], none, []⟩] [10, 196, 197, 198, 199]
def R_sheet_Read_32 : AC := .ops false [⟨some 200, .mov (.t 14), none, []⟩,
  ⟨some 201, .nilchk (.t 200), none, []⟩,
  ⟨some 202, .fa (.t 201) 0, none, []⟩,
  ⟨some 203, .load 4 false (.t 202), none, []⟩,
  ⟨none, .store 4 (.t 8) (.t 203), none, []⟩,
  ⟨some 9, .mov (.c (.int .i64 0)), none, []⟩] [14, 200, 201, 202, 203]
def F_sheet_Read : AFunc := { ntmps := 204, nargs := 4, kills := [[0, 1, 2, 9], [22, 23, 24], [25], [3, 4, 5, 6, 26, 27, 28], [9, 26, 29, 30, 31, 32, 33, 34, 35, 36, 37, 38, 39, 40, 41, 42, 43, 44, 45, 46, 47, 48, 49, 50, 51, 52], [3, 4, 5, 6, 53, 54], [53, 55, 56, 57, 58, 59], [3, 4, 5, 6, 60, 61], [11, 60, 62, 63, 64, 65, 66, 67], [13, 68, 69, 70, 71, 72, 73, 74, 75, 76], [4, 12, 77, 78, 79, 80, 81, 82, 83, 84, 85, 86, 87, 88, 89, 90, 91, 92, 93], [94, 95, 96, 97], [6, 98], [], [102, 103, 104, 105], [16, 17, 106, 107, 108, 109, 110, 111, 112, 113, 114, 115, 116, 117, 118, 119, 120, 121, 122, 123, 124, 125, 126, 127, 128], [129], [3, 5, 99, 100, 101, 102], [], [133, 134, 135], [136, 137, 138, 139, 140, 141, 142, 143, 144, 145, 146, 147, 148, 149, 150, 151, 152], [10, 14, 15, 19, 130, 131, 132, 153, 154], [19, 153, 155, 156, 157, 158, 159, 160, 161, 162, 163, 164, 165, 166, 167], [168], [15, 130, 131, 132, 133], [], [172, 173, 174, 175], [21], [20, 176, 177, 178, 179, 180, 181, 182, 183, 184, 185, 186, 187, 188], [20, 176, 189], [169, 170, 171, 172, 190, 191, 192, 193, 194, 195], [10, 196, 197, 198, 199], [14, 200, 201, 202, 203]], results := [.cell 8 4 false, .t 9], body := (.seq R_sheet_Read_0 (.seq (.seq R_sheet_Read_1 (.seq R_sheet_Read_2 (.cond (.t 26) (.seq R_sheet_Read_3 .ret) .skip))) (.seq (.seq R_sheet_Read_4 (.cond (.t 53) (.seq R_sheet_Read_5 .ret) .skip)) (.seq (.seq R_sheet_Read_6 (.cond (.t 60) (.seq R_sheet_Read_7 .ret) .skip)) (.seq R_sheet_Read_8 (.seq R_sheet_Read_9 (.seq R_sheet_Read_10 (.seq R_sheet_Read_11 (.seq (.seq R_sheet_Read_12 (.block 0 (.loop L_sheet_Read_1))) (.seq (.seq R_sheet_Read_17 (.block 2 (.loop L_sheet_Read_2))) (.seq (.seq R_sheet_Read_24 (.block 4 (.loop L_sheet_Read_3))) (.seq R_sheet_Read_30 (.seq R_sheet_Read_31 (.seq R_sheet_Read_32 .ret)))))))))))))) }
noncomputable def T55 : { F : AFunc // CT.func [[0, 1, 2, 9], [22, 23, 24], [25], [3, 4, 5, 6, 26, 27, 28], [9, 26, 29, 30, 31, 32, 33, 34, 35, 36, 37, 38, 39, 40, 41, 42, 43, 44, 45, 46, 47, 48, 49, 50, 51, 52], [3, 4, 5, 6, 53, 54], [53, 55, 56, 57, 58, 59], [3, 4, 5, 6, 60, 61], [11, 60, 62, 63, 64, 65, 66, 67], [13, 68, 69, 70, 71, 72, 73, 74, 75, 76], [4, 12, 77, 78, 79, 80, 81, 82, 83, 84, 85, 86, 87, 88, 89, 90, 91, 92, 93], [94, 95, 96, 97], [6, 98], [], [102, 103, 104, 105], [16, 17, 106, 107, 108, 109, 110, 111, 112, 113, 114, 115, 116, 117, 118, 119, 120, 121, 122, 123, 124, 125, 126, 127, 128], [129], [3, 5, 99, 100, 101, 102], [], [133, 134, 135], [136, 137, 138, 139, 140, 141, 142, 143, 144, 145, 146, 147, 148, 149, 150, 151, 152], [10, 14, 15, 19, 130, 131, 132, 153, 154], [19, 153, 155, 156, 157, 158, 159, 160, 161, 162, 163, 164, 165, 166, 167], [168], [15, 130, 131, 132, 133], [], [172, 173, 174, 175], [21], [20, 176, 177, 178, 179, 180, 181, 182, 183, 184, 185, 186, 187, 188], [20, 176, 189], [169, 170, 171, 172, 190, 191, 192, 193, 194, 195], [10, 196, 197, 198, 199], [14, 200, 201, 202, 203]] Tryz.f55 = some F } := ⟨F_sheet_Read, by kernel_rfl⟩
theorem c55 : Cert 55 T55.1 := cert_of T55.2 Tryz.func55
-- slices.ContainsFunc[[]string,string]
noncomputable def T56 : { F : AFunc // CT.func [[4], [0, 1, 5, 6, 7, 8]] Tryz.f56 = some F } := by
  refine ⟨?F, ?h⟩
  case h =>
    conv => lhs; cbv
theorem c56 : Cert 56 T56.1 := cert_of T56.2 Tryz.func56
-- suffrage/contest.odd$1
noncomputable def T57 : { F : AFunc // CT.func [[2], [], [0, 3, 4, 5, 6, 7, 8, 9, 10, 11, 12, 13, 14, 15, 16]] Tryz.f57 = some F } := by
  refine ⟨?F, ?h⟩
  case h =>
    conv => lhs; cbv
theorem c57 : Cert 57 T57.1 := cert_of T57.2 Tryz.func57
-- suffrage/contest.odd$1$1
noncomputable def T58 : { F : AFunc // CT.func [[2], [0, 3, 4, 5, 6, 7, 8]] Tryz.f58 = some F } := by
  refine ⟨?F, ?h⟩
  case h =>
    conv => lhs; cbv
theorem c58 : Cert 58 T58.1 := cert_of T58.2 Tryz.func58
-- slices.ContainsFunc[[]byte,byte]
noncomputable def T59 : { F : AFunc // CT.func [[4], [0, 1, 5, 6, 7, 8]] Tryz.f59 = some F } := by
  refine ⟨?F, ?h⟩
  case h =>
    conv => lhs; cbv
theorem c59 : Cert 59 T59.1 := cert_of T59.2 Tryz.func59
-- slices.Contains[[]string,string]
noncomputable def T60 : { F : AFunc // CT.func [[4], [0, 1, 5, 6, 7, 8]] Tryz.f60 = some F } := by
  refine ⟨?F, ?h⟩
  case h =>
    conv => lhs; cbv
theorem c60 : Cert 60 T60.1 := cert_of T60.2 Tryz.func60
-- suffrage/contest.rules
def R_contest_rules_0 : AC := .ops false [⟨some 0, .alloc [.str [], .int .u8 0, .int .i64 0, .bool false, .str [], .int .u8 0, .int .i64 0, .bool false, .str [], .int .u8 0, .int .i64 0, .bool false, .str [], .int .u8 0, .int .i64 0, .bool false, .str [], .int .u8 0, .int .i64 0, .bool false, .str [], .int .u8 0, .int .i64 0, .bool false, .str [], .int .u8 0, .int .i64 0, .bool false, .str [], .int .u8 0, .int .i64 0, .bool false, .str [], .int .u8 0, .int .i64 0, .bool false, .str [], .int .u8 0, .int .i64 0, .bool false, .str [], .int .u8 0, .int .i64 0, .bool false, .str [], .int .u8 0, .int .i64 0, .bool false, .str [], .int .u8 0, .int .i64 0, .bool false, .str [], .int .u8 0, .int .i64 0, .bool false, .str [], .int .u8 0, .int .i64 0, .bool false, .str [], .int .u8 0, .int .i64 0, .bool false, .str [], .int .u8 0, .int .i64 0, .bool false], none, []⟩] []
def R_contest_rules_1 : AC := .ops false [⟨some 1, .build [.str [], .int .u8 0, .int .i64 0, .bool false] [(0, 1, .c (.str [112, 108, 117, 114, 97, 108, 105, 116, 121])), (1, 1, .c (.int .u8 2)), (2, 1, .c (.int .i64 2)), (3, 1, .c (.bool true))], none, []⟩,
  ⟨some 2, .build [.str [], .int .u8 0, .int .i64 0, .bool false] [(0, 1, .c (.str [97, 112, 112, 114, 111, 118, 97, 108])), (1, 1, .c (.int .u8 2)), (2, 1, .c (.int .i64 2)), (3, 1, .c (.bool false))], none, []⟩,
  ⟨some 3, .build [.str [], .int .u8 0, .int .i64 0, .bool false] [(0, 1, .c (.str [115, 99, 111, 114, 101])), (1, 1, .c (.int .u8 3)), (2, 1, .c (.int .i64 2)), (3, 1, .c (.bool false))], none, []⟩,
  ⟨some 4, .build [.str [], .int .u8 0, .int .i64 0, .bool false] [(0, 1, .c (.str [98, 111, 114, 100, 97])), (1, 1, .c (.int .u8 1)), (2, 1, .c (.int .i64 2)), (3, 1, .c (.bool false))], none, []⟩,
  ⟨some 5, .build [.str [], .int .u8 0, .int .i64 0, .bool false] [(0, 1, .c (.str [99, 111, 112, 101, 108, 97, 110, 100])), (1, 1, .c (.int .u8 1)), (2, 1, .c (.int .i64 1)), (3, 1, .c (.bool false))], none, []⟩,
  ⟨some 6, .build [.str [], .int .u8 0, .int .i64 0, .bool false] [(0, 1, .c (.str [109, 105, 110, 105, 109, 97, 120])), (1, 1, .c (.int .u8 1)), (2, 1, .c (.int .i64 1)), (3, 1, .c (.bool false))], none, []⟩,
  ⟨some 7, .build [.str [], .int .u8 0, .int .i64 0, .bool false] [(0, 1, .c (.str [115, 99, 104, 117, 108, 122, 101])), (1, 1, .c (.int .u8 1)), (2, 1, .c (.int .i64 1)), (3, 1, .c (.bool false))], none, []⟩,
  ⟨some 8, .build [.str [], .int .u8 0, .int .i64 0, .bool false] [(0, 1, .c (.str [112, 97, 105, 114, 115])), (1, 1, .c (.int .u8 1)), (2, 1, .c (.int .i64 1)), (3, 1, .c (.bool false))], none, []⟩,
  ⟨some 9, .build [.str [], .int .u8 0, .int .i64 0, .bool false] [(0, 1, .c (.str [114, 117, 110, 111, 102, 102])), (1, 1, .c (.int .u8 1)), (2, 1, .c (.int .i64 1)), (3, 1, .c (.bool false))], none, []⟩,
  ⟨some 10, .build [.str [], .int .u8 0, .int .i64 0, .bool false] [(0, 1, .c (.str [99, 111, 111, 109, 98, 115])), (1, 1, .c (.int .u8 1)), (2, 1, .c (.int .i64 1)), (3, 1, .c (.bool false))], none, []⟩,
  ⟨some 11, .build [.str [], .int .u8 0, .int .i64 0, .bool false] [(0, 1, .c (.str [103, 114, 101, 103, 111, 114, 121])), (1, 1, .c (.int .u8 1)), (2, 1, .c (.int .i64 2)), (3, 1, .c (.bool false))], none, []⟩,
  ⟨some 12, .build [.str [], .int .u8 0, .int .i64 0, .bool false] [(0, 1, .c (.str [109, 101, 101, 107])), (1, 1, .c (.int .u8 1)), (2, 1, .c (.int .i64 2)), (3, 1, .c (.bool false))], none, []⟩,
  ⟨some 13, .build [.str [], .int .u8 0, .int .i64 0, .bool false] [(0, 1, .c (.str [112, 104, 114, 97, 103, 109, 101, 110])), (1, 1, .c (.int .u8 2)), (2, 1, .c (.int .i64 2)), (3, 1, .c (.bool false))], none, []⟩,
  ⟨some 14, .build [.str [], .int .u8 0, .int .i64 0, .bool false] [(0, 1, .c (.str [100, 104, 111, 110, 100, 116])), (1, 1, .c (.int .u8 2)), (2, 1, .c (.int .i64 3)), (3, 1, .c (.bool true))], none, []⟩,
  ⟨some 15, .build [.str [], .int .u8 0, .int .i64 0, .bool false] [(0, 1, .c (.str [115, 97, 105, 110, 116, 101])), (1, 1, .c (.int .u8 2)), (2, 1, .c (.int .i64 3)), (3, 1, .c (.bool true))], none, []⟩,
  ⟨some 16, .build [.str [], .int .u8 0, .int .i64 0, .bool false] [(0, 1, .c (.str [104, 97, 114, 101])), (1, 1, .c (.int .u8 2)), (2, 1, .c (.int .i64 3)), (3, 1, .c (.bool true))], none, []⟩,
  ⟨some 17, .build [.str [], .int .u8 0, .int .i64 0, .bool false, .str [], .int .u8 0, .int .i64 0, .bool false, .str [], .int .u8 0, .int .i64 0, .bool false, .str [], .int .u8 0, .int .i64 0, .bool false, .str [], .int .u8 0, .int .i64 0, .bool false, .str [], .int .u8 0, .int .i64 0, .bool false, .str [], .int .u8 0, .int .i64 0, .bool false, .str [], .int .u8 0, .int .i64 0, .bool false, .str [], .int .u8 0, .int .i64 0, .bool false, .str [], .int .u8 0, .int .i64 0, .bool false, .str [], .int .u8 0, .int .i64 0, .bool false, .str [], .int .u8 0, .int .i64 0, .bool false, .str [], .int .u8 0, .int .i64 0, .bool false, .str [], .int .u8 0, .int .i64 0, .bool false, .str [], .int .u8 0, .int .i64 0, .bool false, .str [], .int .u8 0, .int .i64 0, .bool false, .str [], .int .u8 0, .int .i64 0, .bool false] [(4, 4, .t 1), (8, 4, .t 2), (12, 4, .t 3), (16, 4, .t 4), (20, 4, .t 5), (24, 4, .t 6), (28, 4, .t 7), (32, 4, .t 8), (36, 4, .t 9), (40, 4, .t 10), (44, 4, .t 11), (48, 4, .t 12), (52, 4, .t 13), (56, 4, .t 14), (60, 4, .t 15), (64, 4, .t 16)], none, []⟩,
  ⟨none, .store 68 (.t 0) (.t 17), none, []⟩] [1, 2, 3, 4, 5, 6, 7, 8, 9, 10, 11, 12, 13, 14, 15, 16, 17]
def F_contest_rules : AFunc := { ntmps := 18, nargs := 0, kills := [[], [1, 2, 3, 4, 5, 6, 7, 8, 9, 10, 11, 12, 13, 14, 15, 16, 17]], results := [.cell 0 68 false], body := (.seq R_contest_rules_0 (.seq R_contest_rules_1 .ret)) }
noncomputable def T61 : { F : AFunc // CT.func [[], [1, 2, 3, 4, 5, 6, 7, 8, 9, 10, 11, 12, 13, 14, 15, 16, 17]] Tryz.f61 = some F } := ⟨F_contest_rules, by kernel_rfl⟩
theorem c61 : Cert 61 T61.1 := cert_of T61.2 Tryz.func61
-- suffrage/profile.may
noncomputable def T62 : { F : AFunc // CT.func [[0, 1, 6], [8, 9], [10], [2, 3, 4, 7, 11, 12], [3, 4, 7, 11, 14, 15, 16, 17, 18, 19, 20, 21, 22, 23, 24, 25], [2, 13], [2, 13, 27, 28], [26], [26]] Tryz.f62 = some F } := by
  refine ⟨?F, ?h⟩
  case h =>
    conv => lhs; cbv
theorem c62 : Cert 62 T62.1 := cert_of T62.2 Tryz.func62
-- suffrage/profile.Twin
noncomputable def T63 : { F : AFunc // CT.func [[0], [5, 6, 7, 8], [9], [], [13, 14, 15, 16], [3, 4, 17, 18, 19, 20, 21, 22, 23, 24], [25], [1, 10, 11, 12, 13, 26]] Tryz.f63 = some F } := by
  refine ⟨?F, ?h⟩
  case h =>
    conv => lhs; cbv
theorem c63 : Cert 63 T63.1 := cert_of T63.2 Tryz.func63
-- suffrage/profile.put
noncomputable def T64 : { F : AFunc // CT.func [[8, 9, 10, 11, 12, 13, 14, 15], [7], [0, 1, 2, 6, 16, 17, 18, 19, 20, 21, 22, 23, 24, 25, 26, 27, 28], [0, 1, 2, 6, 16, 29, 30, 31, 32, 33, 34, 35, 36, 37, 38, 39, 40, 41, 42]] Tryz.f64 = some F } := by
  refine ⟨?F, ?h⟩
  case h =>
    conv => lhs; cbv
theorem c64 : Cert 64 T64.1 := cert_of T64.2 Tryz.func64
-- suffrage/profile.whole
noncomputable def T65 : { F : AFunc // CT.func [[0, 3], [5, 6], [7], [1, 4, 8, 9, 10], [1, 4, 8, 11]] Tryz.f65 = some F } := by
  refine ⟨?F, ?h⟩
  case h =>
    conv => lhs; cbv
theorem c65 : Cert 65 T65.1 := cert_of T65.2 Tryz.func65
-- suffrage/profile.all[suffrage/api.Row]
noncomputable def T66 : { F : AFunc // CT.func [[4], [], [], [10, 11, 12, 13], [5, 6, 14, 15, 16, 17, 18, 19, 20, 21, 22], [0, 1, 7, 8, 9, 23], [23, 24], [0, 1, 7, 8, 9, 10]] Tryz.f66 = some F } := by
  refine ⟨?F, ?h⟩
  case h =>
    conv => lhs; cbv
theorem c66 : Cert 66 T66.1 := cert_of T66.2 Tryz.func66
end Go.Proofs.YtmkaekblmbjhpaaGreat
