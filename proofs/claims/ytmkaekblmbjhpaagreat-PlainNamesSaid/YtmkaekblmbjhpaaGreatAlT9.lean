/- The functions in the abstract language, worked out by Lean. -/
import Derived.Test.YtmkaekblmbjhpaaGreatAlX
set_option linter.unusedVariables false
set_option maxHeartbeats 1000000
set_option maxRecDepth 100000
namespace Go.Proofs.YtmkaekblmbjhpaaGreat
-- (*suffrage/meek.count).reaches
noncomputable def T147 : { F : AFunc // CT.func [[2], [4, 5, 6, 7, 8, 9, 10], [11, 12, 13, 14, 15, 16, 17, 18, 19, 20, 21, 22, 23], [0, 3, 24], [0, 3, 24, 25, 26, 27], []] Tryz.f147 = some F } := by
  refine ⟨?F, ?h⟩
  case h =>
    conv => lhs; cbv
theorem c147 : Cert 147 T147.1 := cert_of T147.2 Tryz.func147
-- (*suffrage/meek.count).drops
noncomputable def T148 : { F : AFunc // CT.func [[0, 2], [5, 6, 7, 8, 9, 10, 11, 12, 13, 14], [3, 15, 16, 17, 18, 19, 20, 21], [1, 22], [22, 23, 24, 25, 26, 27, 28, 29, 30, 31, 32, 33, 34], [35, 36, 37, 38, 39, 40], [41, 42, 43, 44, 45, 46], [1, 4, 47, 48, 49], []] Tryz.f148 = some F } := by
  refine ⟨?F, ?h⟩
  case h =>
    conv => lhs; cbv
theorem c148 : Cert 148 T148.1 := cert_of T148.2 Tryz.func148
-- (*suffrage/meek.count).keep
def R_meek_count_keep_0 : AC := .ops false [⟨some 2, .mov (.c (.bool false)), none, []⟩] [2]
def R_meek_count_keep_1 : AC := .ops false [⟨some 5, .mov (.t 0), none, []⟩,
  ⟨some 6, .nilchk (.t 5), none, []⟩,
  ⟨some 7, .fa (.t 6) 0, none, []⟩,
  ⟨some 8, .load 1 true (.t 7), none, []⟩,
  ⟨some 9, .nilchk (.t 8), none, []⟩,
  ⟨some 10, .fa (.t 9) 0, none, []⟩,
  ⟨some 11, .fa (.t 10) 0, none, []⟩,
  ⟨some 12, .load 1 true (.t 11), none, []⟩,
  ⟨some 13, .len (.t 12), none, []⟩,
  ⟨some 14, .mov (.c (.int .i64 0)), none, []⟩] [5, 6, 7, 8, 9, 10, 11]
def R_meek_count_keep_2 : AC := .ops false [⟨some 15, .bin .lss (.t 14) (.t 13), none, []⟩] []
def R_meek_count_keep_3 : AC := .ops false [⟨some 16, .ia 1 (.t 12) (.t 14), none, []⟩,
  ⟨some 17, .load 1 true (.t 16), none, []⟩,
  ⟨some 4, .mov (.t 17), none, []⟩] [15, 16, 17]
def R_meek_count_keep_4 : AC := .ops true [⟨some 18, .mov (.t 0), none, []⟩,
  ⟨some 19, .nilchk (.t 18), none, [0]⟩,
  ⟨some 20, .fa (.t 19) 9, none, [1]⟩,
  ⟨some 21, .load 1 true (.t 20), none, [2]⟩,
  ⟨some 22, .mov (.t 4), none, []⟩,
  ⟨some 23, .ia 1 (.t 21) (.t 22), none, [3, 4]⟩,
  ⟨some 24, .load 1 true (.t 23), none, [5]⟩,
  ⟨some 25, .mov (.t 0), none, []⟩,
  ⟨some 26, .nilchk (.t 25), none, [7]⟩,
  ⟨some 27, .fa (.t 26) 11, none, [8]⟩,
  ⟨some 28, .load 1 true (.t 27), none, [9]⟩,
  ⟨some 29, .bin .gtr (.t 24) (.t 28), none, [6, 10]⟩] [18, 19, 20, 21, 22, 23, 24, 25, 26, 27, 28]
def R_meek_count_keep_5 : AC := .ops true [⟨some 31, .mov (.t 0), none, []⟩,
  ⟨some 32, .nilchk (.t 31), none, [0]⟩,
  ⟨some 33, .fa (.t 32) 6, none, [1]⟩,
  ⟨some 34, .load 1 true (.t 33), none, [2]⟩,
  ⟨some 35, .mov (.t 4), none, []⟩,
  ⟨some 36, .mov (.t 0), none, []⟩,
  ⟨some 37, .nilchk (.t 36), none, [5]⟩,
  ⟨some 38, .fa (.t 37) 6, none, [6]⟩,
  ⟨some 39, .load 1 true (.t 38), none, [7]⟩,
  ⟨some 40, .mov (.t 4), none, []⟩,
  ⟨some 41, .ia 1 (.t 39) (.t 40), none, [8, 9]⟩,
  ⟨some 42, .load 1 true (.t 41), none, [10]⟩,
  ⟨some 43, .mov (.t 0), none, []⟩,
  ⟨some 44, .nilchk (.t 43), none, [12]⟩,
  ⟨some 45, .fa (.t 44) 9, none, [13]⟩,
  ⟨some 46, .load 1 true (.t 45), none, [14]⟩,
  ⟨some 47, .mov (.t 4), none, []⟩,
  ⟨some 48, .ia 1 (.t 46) (.t 47), none, [15, 16]⟩,
  ⟨some 49, .load 1 true (.t 48), none, [17]⟩,
  ⟨some 50, .mov (.t 0), none, []⟩,
  ⟨some 51, .nilchk (.t 50), none, [19]⟩,
  ⟨some 52, .fa (.t 51) 11, none, [20]⟩,
  ⟨some 53, .load 1 true (.t 52), none, [21]⟩,
  ⟨some 54, .call (.fn 219) [.t 42, .t 49, .t 53], none, [11, 18, 22]⟩,
  ⟨some 30, .mov (.t 54), none, [23]⟩,
  ⟨some 55, .ext (.t 30) 0, none, [24]⟩,
  ⟨some 56, .ext (.t 30) 1, none, [24]⟩,
  ⟨some 57, .ia 1 (.t 34) (.t 35), none, [3, 4, 0, 1, 2, 3, 4, 5, 6, 7, 8, 9, 10, 11, 12, 13, 14, 15, 16, 17, 18, 19, 20, 21, 22, 23, 24, 25]⟩,
  ⟨none, .store 1 (.t 57) (.t 55), none, [27, 25, 23, 0, 1, 2, 3, 4, 5, 6, 7, 8, 9, 10, 11, 12, 13, 14, 15, 16, 17, 18, 19, 20, 21, 22, 23, 24, 25]⟩] [4, 29, 30, 31, 32, 33, 34, 35, 36, 37, 38, 39, 40, 41, 42, 43, 44, 45, 46, 47, 48, 49, 50, 51, 52, 53, 54, 55, 56, 57]
def R_meek_count_keep_6 : AC := .ops false [⟨some 58, .bin .add (.t 14) (.c (.int .i64 1)), none, []⟩,
  ⟨some 14, .mov (.t 58), none, []⟩] [4, 29, 58]
def L_meek_count_keep_1 : AC := (.seq R_meek_count_keep_2 (.seq (.cond (.t 15) .skip (.exit 0)) (.seq (.block 1 (.seq R_meek_count_keep_3 (.seq R_meek_count_keep_4 (.cond (.t 29) R_meek_count_keep_5 .skip)))) R_meek_count_keep_6)))
def R_meek_count_keep_7 : AC := .ops false [⟨some 2, .mov (.c (.bool false)), none, []⟩] [0, 12, 13, 14, 15]
def F_meek_count_keep : AFunc := { ntmps := 59, nargs := 1, kills := [[2], [5, 6, 7, 8, 9, 10, 11], [], [15, 16, 17], [18, 19, 20, 21, 22, 23, 24, 25, 26, 27, 28], [4, 29, 30, 31, 32, 33, 34, 35, 36, 37, 38, 39, 40, 41, 42, 43, 44, 45, 46, 47, 48, 49, 50, 51, 52, 53, 54, 55, 56, 57], [4, 29, 58], [0, 12, 13, 14, 15]], results := [.t 2], body := (.seq R_meek_count_keep_0 (.seq (.seq R_meek_count_keep_1 (.block 0 (.loop L_meek_count_keep_1))) (.seq R_meek_count_keep_7 .ret))) }
noncomputable def T149 : { F : AFunc // CT.func [[2], [5, 6, 7, 8, 9, 10, 11], [], [15, 16, 17], [18, 19, 20, 21, 22, 23, 24, 25, 26, 27, 28], [4, 29, 30, 31, 32, 33, 34, 35, 36, 37, 38, 39, 40, 41, 42, 43, 44, 45, 46, 47, 48, 49, 50, 51, 52, 53, 54, 55, 56, 57], [4, 29, 58], [0, 12, 13, 14, 15]] Tryz.f149 = some F } := ⟨F_meek_count_keep, by kernel_rfl⟩
theorem c149 : Cert 149 T149.1 := cert_of T149.2 Tryz.func149
-- (*suffrage/meek.count).turn
def R_meek_count_turn_0 : AC := .ops false [⟨some 1, .box (.t 0), none, []⟩] [0]
def R_meek_count_turn_1 : AC := .ops false [⟨some 5, .load 1 true (.t 1), none, []⟩,
  ⟨some 6, .nilchk (.t 5), none, []⟩,
  ⟨some 7, .fa (.t 6) 8, none, []⟩,
  ⟨some 8, .load 1 true (.t 7), none, []⟩,
  ⟨some 9, .bin .add (.t 8) (.c (.int .i64 1)), none, []⟩,
  ⟨some 10, .nilchk (.t 5), none, []⟩,
  ⟨some 11, .fa (.t 10) 8, none, []⟩,
  ⟨none, .store 1 (.t 11) (.t 9), none, []⟩] [5, 6, 7, 8, 9, 10, 11]
def R_meek_count_turn_2 : AC := .ops true [⟨some 12, .load 1 true (.t 1), none, []⟩,
  ⟨some 13, .load 1 true (.t 1), none, []⟩,
  ⟨some 14, .load 1 true (.t 1), none, []⟩,
  ⟨some 15, .nilchk (.t 14), none, [2]⟩,
  ⟨some 16, .fa (.t 15) 1, none, [3]⟩,
  ⟨some 17, .fa (.t 16) 0, none, [4]⟩,
  ⟨some 18, .load 1 true (.t 17), none, [5]⟩,
  ⟨some 19, .mkslice 1 8 [.int .i64 0] (.t 18) (.t 18), none, [6, 6]⟩,
  ⟨some 20, .nilchk (.t 12), none, [0, 0, 2, 3, 4, 5, 6, 7]⟩,
  ⟨some 21, .fa (.t 20) 9, none, [8, 0, 2, 3, 4, 5, 6, 7]⟩,
  ⟨none, .store 1 (.t 21) (.t 19), none, [9, 7, 0, 2, 3, 4, 5, 6, 7]⟩,
  ⟨some 22, .nilchk (.t 13), none, [1, 0, 1, 2, 3, 4, 5, 6, 7, 8, 9, 10]⟩,
  ⟨some 23, .fa (.t 22) 10, none, [11, 0, 1, 2, 3, 4, 5, 6, 7, 8, 9, 10]⟩,
  ⟨none, .store 1 (.t 23) (.c (.int .i64 0)), none, [12, 10, 0, 1, 2, 3, 4, 5, 6, 7, 8, 9, 10]⟩] [12, 13, 14, 15, 16, 17, 18, 19, 20, 21, 22, 23]
def R_meek_count_turn_3 : AC := .ops false [⟨some 24, .load 1 true (.t 1), none, []⟩,
  ⟨some 25, .nilchk (.t 24), none, []⟩,
  ⟨some 26, .fa (.t 25) 1, none, []⟩,
  ⟨some 27, .fa (.t 26) 2, none, []⟩,
  ⟨some 28, .load 1 true (.t 27), none, []⟩,
  ⟨some 29, .len (.t 28), none, []⟩,
  ⟨some 30, .mov (.c (.int .i64 0)), none, []⟩] [24, 25, 26, 27]
def R_meek_count_turn_4 : AC := .ops false [⟨some 31, .bin .lss (.t 30) (.t 29), none, []⟩] []
def R_meek_count_turn_5 : AC := .ops false [⟨some 32, .ia 2 (.t 28) (.t 30), none, []⟩,
  ⟨some 33, .load 2 false (.t 32), none, []⟩,
  ⟨some 3, .alloc [.lst 0 [] (some 0), .int .i64 0], none, []⟩,
  ⟨none, .store 2 (.t 3) (.t 33), none, []⟩] [31, 32, 33]
def R_meek_count_turn_6 : AC := .ops true [⟨some 34, .fa (.t 3) 0, none, []⟩,
  ⟨some 35, .load 1 true (.t 34), none, [0]⟩,
  ⟨some 36, .load 1 true (.t 1), none, []⟩,
  ⟨some 37, .nilchk (.t 36), none, [2]⟩,
  ⟨some 38, .fa (.t 37) 6, none, [3]⟩,
  ⟨some 39, .load 1 true (.t 38), none, [4]⟩,
  ⟨some 40, .mkfn 221 [] [.t 1, .t 3], none, []⟩,
  ⟨some 41, .call (.fn 220) [.t 35, .t 39, .t 40], none, [1, 5, 6]⟩,
  ⟨some 4, .mov (.t 41), none, [7, 7, 0, 1, 2, 3, 4, 5, 6, 7]⟩] [34, 35, 36, 37, 38, 39, 40, 41]
def R_meek_count_turn_7 : AC := .ops false [⟨some 42, .fa (.t 3) 0, none, []⟩,
  ⟨some 43, .load 1 true (.t 42), none, []⟩,
  ⟨some 44, .len (.t 43), none, []⟩,
  ⟨some 45, .bin .gtr (.t 44) (.c (.int .i64 0)), none, []⟩] [42, 43, 44]
def R_meek_count_turn_8 : AC := .ops true [⟨some 46, .load 1 true (.t 1), none, []⟩,
  ⟨some 47, .nilchk (.t 46), none, [0]⟩,
  ⟨some 48, .fa (.t 47) 10, none, [1]⟩,
  ⟨some 49, .load 1 true (.t 48), none, [2]⟩,
  ⟨some 50, .mov (.t 4), none, []⟩,
  ⟨some 51, .fa (.t 3) 1, none, []⟩,
  ⟨some 52, .load 1 true (.t 51), none, [5]⟩,
  ⟨some 53, .bin .mul (.t 50) (.t 52), none, [4, 6]⟩,
  ⟨some 54, .bin .add (.t 49) (.t 53), none, [3, 7]⟩,
  ⟨some 55, .nilchk (.t 46), none, [0, 0, 1, 2, 3, 4, 5, 6, 7, 8]⟩,
  ⟨some 56, .fa (.t 55) 10, none, [9, 0, 1, 2, 3, 4, 5, 6, 7, 8]⟩,
  ⟨none, .store 1 (.t 56) (.t 54), none, [10, 8, 0, 1, 2, 3, 4, 5, 6, 7, 8]⟩] [3, 4, 45, 46, 47, 48, 49, 50, 51, 52, 53, 54, 55, 56]
def R_meek_count_turn_9 : AC := .ops false [⟨some 57, .bin .add (.t 30) (.c (.int .i64 1)), none, []⟩,
  ⟨some 30, .mov (.t 57), none, []⟩] [3, 4, 45, 57]
def L_meek_count_turn_1 : AC := (.seq R_meek_count_turn_4 (.seq (.cond (.t 31) .skip (.exit 0)) (.seq (.block 1 (.seq R_meek_count_turn_5 (.seq R_meek_count_turn_6 (.seq R_meek_count_turn_7 (.cond (.t 45) R_meek_count_turn_8 .skip))))) R_meek_count_turn_9)))
def R_meek_count_turn_10 : AC := .ops true [⟨some 59, .load 1 true (.t 1), none, []⟩,
  ⟨some 60, .load 1 true (.t 1), none, []⟩,
  ⟨some 61, .nilchk (.t 60), none, [1]⟩,
  ⟨some 62, .fa (.t 61) 5, none, [2]⟩,
  ⟨some 63, .load 1 true (.t 62), none, [3]⟩,
  ⟨some 64, .load 1 true (.t 1), none, []⟩,
  ⟨some 65, .nilchk (.t 64), none, [5]⟩,
  ⟨some 66, .fa (.t 65) 10, none, [6]⟩,
  ⟨some 67, .load 1 true (.t 66), none, [7]⟩,
  ⟨some 68, .load 1 true (.t 1), none, []⟩,
  ⟨some 69, .nilchk (.t 68), none, [9]⟩,
  ⟨some 70, .fa (.t 69) 4, none, [10]⟩,
  ⟨some 71, .load 1 true (.t 70), none, [11]⟩,
  ⟨some 72, .call (.fn 222) [.t 63, .t 67, .t 71], none, [4, 8, 12]⟩,
  ⟨some 58, .mov (.t 72), none, [13]⟩,
  ⟨some 73, .ext (.t 58) 0, none, [14]⟩,
  ⟨some 74, .ext (.t 58) 1, none, [14]⟩,
  ⟨some 75, .nilchk (.t 59), none, [0, 0, 1, 2, 3, 4, 5, 6, 7, 8, 9, 10, 11, 12, 13, 14, 15]⟩,
  ⟨some 76, .fa (.t 75) 11, none, [17, 0, 1, 2, 3, 4, 5, 6, 7, 8, 9, 10, 11, 12, 13, 14, 15]⟩,
  ⟨none, .store 1 (.t 76) (.t 73), none, [18, 15, 13, 0, 1, 2, 3, 4, 5, 6, 7, 8, 9, 10, 11, 12, 13, 14, 15]⟩] [1, 28, 29, 30, 31, 58, 59, 60, 61, 62, 63, 64, 65, 66, 67, 68, 69, 70, 71, 72, 73, 74, 75, 76]
def F_meek_count_turn : AFunc := { ntmps := 77, nargs := 1, kills := [[0], [5, 6, 7, 8, 9, 10, 11], [12, 13, 14, 15, 16, 17, 18, 19, 20, 21, 22, 23], [24, 25, 26, 27], [], [31, 32, 33], [34, 35, 36, 37, 38, 39, 40, 41], [42, 43, 44], [3, 4, 45, 46, 47, 48, 49, 50, 51, 52, 53, 54, 55, 56], [3, 4, 45, 57], [1, 28, 29, 30, 31, 58, 59, 60, 61, 62, 63, 64, 65, 66, 67, 68, 69, 70, 71, 72, 73, 74, 75, 76]], results := [], body := (.seq R_meek_count_turn_0 (.seq R_meek_count_turn_1 (.seq R_meek_count_turn_2 (.seq (.seq R_meek_count_turn_3 (.block 0 (.loop L_meek_count_turn_1))) R_meek_count_turn_10)))) }
noncomputable def T150 : { F : AFunc // CT.func [[0], [5, 6, 7, 8, 9, 10, 11], [12, 13, 14, 15, 16, 17, 18, 19, 20, 21, 22, 23], [24, 25, 26, 27], [], [31, 32, 33], [34, 35, 36, 37, 38, 39, 40, 41], [42, 43, 44], [3, 4, 45, 46, 47, 48, 49, 50, 51, 52, 53, 54, 55, 56], [3, 4, 45, 57], [1, 28, 29, 30, 31, 58, 59, 60, 61, 62, 63, 64, 65, 66, 67, 68, 69, 70, 71, 72, 73, 74, 75, 76]] Tryz.f150 = some F } := ⟨F_meek_count_turn, by kernel_rfl⟩
theorem c150 : Cert 150 T150.1 := cert_of T150.2 Tryz.func150
-- suffrage/meek.told
noncomputable def T151 : { F : AFunc // CT.func [[], [0], [], [10, 11, 12], [4, 6, 13, 14, 15, 16, 17], [5, 18, 19, 20, 21], [22], [7, 8, 9, 10, 23]] Tryz.f151 = some F } := by
  refine ⟨?F, ?h⟩
  case h =>
    conv => lhs; cbv
theorem c151 : Cert 151 T151.1 := cert_of T151.2 Tryz.func151
-- suffrage/phragmen.zeros
noncomputable def T152 : { F : AFunc // CT.func [[], [0], [], [5, 6, 7, 8, 9], [10], [3, 4, 5, 11]] Tryz.f152 = some F } := by
  refine ⟨?F, ?h⟩
  case h =>
    conv => lhs; cbv
theorem c152 : Cert 152 T152.1 := cert_of T152.2 Tryz.func152
-- suffrage/profile.Many
noncomputable def T153 : { F : AFunc // CT.func [[0, 2, 3], [1, 4, 5, 6, 7]] Tryz.f153 = some F } := by
  refine ⟨?F, ?h⟩
  case h =>
    conv => lhs; cbv
theorem c153 : Cert 153 T153.1 := cert_of T153.2 Tryz.func153
-- suffrage/phragmen.Count$1
def R_phragmen_Count_1_0 : AC := .ops false [⟨some 6, .alloc [.lst 0 [] (some 0), .bool false, .lst 0 [] (some 0), .lst 0 [] (some 0), .lst 0 [] (some 0), .lst 0 [] (some 0)], none, []⟩] []
def R_phragmen_Count_1_1 : AC := .ops true [⟨some 15, .fa (.t 0) 0, none, []⟩,
  ⟨some 16, .load 1 true (.t 15), none, [0]⟩,
  ⟨some 17, .call (.fn 152) [.t 16], none, [1]⟩,
  ⟨some 18, .load 1 true (.t 1), none, []⟩,
  ⟨some 19, .load 1 true (.t 2), none, []⟩,
  ⟨some 20, .bin .sub (.t 18) (.t 19), none, [3, 4]⟩,
  ⟨some 21, .call (.fn 12) [.t 20], none, [5, 2]⟩,
  ⟨some 22, .build [.lst 0 [] (some 0), .bool false, .lst 0 [] (some 0), .lst 0 [] (some 0), .lst 0 [] (some 0), .lst 0 [] (some 0)] [(0, 1, .t 17), (1, 3, .t 21)], none, [2, 6]⟩,
  ⟨some 7, .alloc [.lst 0 [] (some 0), .bool false, .lst 0 [] (some 0), .lst 0 [] (some 0), .lst 0 [] (some 0), .lst 0 [] (some 0)], none, []⟩,
  ⟨none, .store 6 (.t 7) (.t 22), none, [8, 7, 6, 0, 1, 2, 3, 4, 5, 6, 7, 8]⟩] [1, 2, 15, 16, 17, 18, 19, 20, 21, 22]
def R_phragmen_Count_1_2 : AC := .ops false [⟨some 23, .mkmap none, none, []⟩,
  ⟨some 8, .mov (.t 23), none, []⟩] [23]
def R_phragmen_Count_1_3 : AC := .ops false [⟨some 24, .load 1 true (.t 3), none, []⟩,
  ⟨some 25, .len (.t 24), none, []⟩,
  ⟨some 26, .mov (.c (.int .i64 0)), none, []⟩] []
def R_phragmen_Count_1_4 : AC := .ops false [⟨some 27, .bin .lss (.t 26) (.t 25), none, []⟩] []
def R_phragmen_Count_1_5 : AC := .ops false [⟨some 28, .ia 1 (.t 24) (.t 26), none, []⟩,
  ⟨some 29, .load 1 true (.t 28), none, []⟩,
  ⟨some 10, .mov (.t 29), none, []⟩] [27, 28, 29]
def R_phragmen_Count_1_6 : AC := .ops false [⟨some 31, .load 3 false (.t 0), none, []⟩,
  ⟨some 32, .load 1 true (.t 4), none, []⟩,
  ⟨some 33, .mov (.t 10), none, []⟩,
  ⟨some 34, .call (.fn 155) [.t 31, .t 32, .t 33], none, []⟩,
  ⟨some 30, .mov (.t 34), none, []⟩,
  ⟨some 35, .ext (.t 30) 0, none, []⟩,
  ⟨some 36, .ext (.t 30) 1, none, []⟩,
  ⟨some 37, .ext (.t 30) 2, none, []⟩,
  ⟨some 11, .alloc [.bool false, .lst 0 [] (some 0), .lst 0 [] (some 0)], none, []⟩,
  ⟨none, .store 3 (.t 11) (.t 35), none, []⟩,
  ⟨some 12, .mov (.t 36), none, []⟩,
  ⟨some 13, .mov (.t 37), none, []⟩] [13, 30, 31, 32, 33, 34, 35, 36, 37]
def R_phragmen_Count_1_7 : AC := .ops false [⟨some 38, .mov (.t 12), none, []⟩] [12]
def R_phragmen_Count_1_8 : AC := .ops true [⟨some 39, .mov (.t 8), none, []⟩,
  ⟨some 40, .mov (.t 10), none, []⟩,
  ⟨some 41, .fa (.t 7) 0, none, []⟩,
  ⟨some 42, .load 1 true (.t 41), none, [2]⟩,
  ⟨some 43, .mov (.t 10), none, []⟩,
  ⟨some 44, .load 3 false (.t 11), none, []⟩,
  ⟨some 45, .load 3 false (.t 11), none, []⟩,
  ⟨some 46, .call (.fn 49) [.t 45], none, [6]⟩,
  ⟨none, .mset 0 (.t 39) (.t 40) (.t 44), none, [0, 1, 5, 7, 0, 1, 5, 7]⟩,
  ⟨some 47, .ia 3 (.t 42) (.t 43), none, [3, 4, 0, 1, 2, 3, 4, 5, 6, 7, 8]⟩,
  ⟨none, .store 3 (.t 47) (.t 46), none, [9, 7, 8, 0, 1, 2, 3, 4, 5, 6, 7, 8]⟩] [10, 11, 38, 39, 40, 41, 42, 43, 44, 45, 46, 47]
def R_phragmen_Count_1_9 : AC := .ops false [⟨some 48, .bin .add (.t 26) (.c (.int .i64 1)), none, []⟩,
  ⟨some 26, .mov (.t 48), none, []⟩] [10, 11, 38, 48]
def L_phragmen_Count_1_1 : AC := (.seq R_phragmen_Count_1_4 (.seq (.cond (.t 27) .skip (.exit 0)) (.seq (.block 1 (.seq R_phragmen_Count_1_5 (.seq R_phragmen_Count_1_6 (.seq R_phragmen_Count_1_7 (.cond (.t 38) R_phragmen_Count_1_8 .skip))))) R_phragmen_Count_1_9)))
def R_phragmen_Count_1_10 : AC := .ops true [⟨some 49, .load 1 true (.t 5), none, []⟩,
  ⟨some 50, .load 1 true (.t 3), none, []⟩,
  ⟨some 51, .mov (.t 8), none, []⟩,
  ⟨some 52, .call (.fn 156) [.t 50, .t 51], none, [1, 2]⟩,
  ⟨some 53, .call (.fn 132) [.t 49, .t 52], none, [0, 3, 3]⟩,
  ⟨some 14, .alloc [.int .i64 0], none, []⟩,
  ⟨none, .store 1 (.t 14) (.t 53), none, [5, 4, 4, 0, 1, 2, 3, 4, 5]⟩] [8, 24, 25, 26, 27, 49, 50, 51, 52, 53]
def R_phragmen_Count_1_11 : AC := .ops false [⟨some 54, .load 3 false (.t 0), none, []⟩,
  ⟨some 55, .load 1 true (.t 4), none, []⟩,
  ⟨some 56, .load 1 true (.t 14), none, []⟩,
  ⟨some 57, .call (.fn 157) [.t 54, .t 55, .t 56], none, []⟩] [0, 4, 54, 55, 56, 57]
def R_phragmen_Count_1_12 : AC := .ops false [⟨some 58, .load 1 true (.t 3), none, []⟩,
  ⟨some 59, .mkfn 158 [] [.t 14], none, []⟩,
  ⟨some 60, .call (.fn 139) [.t 58, .t 59], none, []⟩,
  ⟨none, .store 1 (.t 3) (.t 60), none, []⟩] [3, 58, 59, 60]
def R_phragmen_Count_1_13 : AC := .ops true [⟨some 61, .load 1 true (.t 5), none, []⟩,
  ⟨some 62, .load 1 true (.t 5), none, []⟩,
  ⟨some 63, .nilchk (.t 62), none, [1]⟩,
  ⟨some 64, .fa (.t 63) 0, none, [2]⟩,
  ⟨some 65, .fa (.t 64) 0, none, [3]⟩,
  ⟨some 66, .load 1 true (.t 65), none, [4]⟩,
  ⟨some 67, .load 1 true (.t 14), none, []⟩,
  ⟨some 68, .bslice 1 [.int .i64 0] 1 [(0, .t 67)], none, [6]⟩,
  ⟨some 69, .append 1 8 (.t 66) (.t 68), none, [5, 7]⟩,
  ⟨some 70, .load 1 true (.t 14), none, []⟩,
  ⟨some 71, .bslice 1 [.int .i64 0] 1 [(0, .t 70)], none, [9]⟩,
  ⟨some 72, .nilchk (.t 61), none, [0, 0, 1, 2, 3, 4, 5, 6, 7, 8]⟩,
  ⟨some 73, .fa (.t 72) 0, none, [11, 0, 1, 2, 3, 4, 5, 6, 7, 8]⟩,
  ⟨some 74, .fa (.t 73) 0, none, [12, 0, 1, 2, 3, 4, 5, 6, 7, 8]⟩,
  ⟨none, .store 1 (.t 74) (.t 69), none, [13, 8, 8, 0, 1, 2, 3, 4, 5, 6, 7, 8]⟩,
  ⟨some 75, .fa (.t 7) 4, none, [0, 1, 2, 3, 4, 5, 6, 7, 8, 9, 10, 11, 12, 13, 14]⟩,
  ⟨none, .store 1 (.t 75) (.t 71), none, [15, 10, 14, 0, 1, 2, 3, 4, 5, 6, 7, 8, 9, 10, 11, 12, 13, 14]⟩] [5, 14, 61, 62, 63, 64, 65, 66, 67, 68, 69, 70, 71, 72, 73, 74, 75]
def R_phragmen_Count_1_14 : AC := .ops false [⟨some 76, .load 6 false (.t 7), none, []⟩,
  ⟨none, .store 6 (.t 6) (.t 76), none, []⟩] [7, 76]
def F_phragmen_Count_1 : AFunc := { ntmps := 77, nargs := 6, kills := [[], [1, 2, 15, 16, 17, 18, 19, 20, 21, 22], [23], [], [], [27, 28, 29], [13, 30, 31, 32, 33, 34, 35, 36, 37], [12], [10, 11, 38, 39, 40, 41, 42, 43, 44, 45, 46, 47], [10, 11, 38, 48], [8, 24, 25, 26, 27, 49, 50, 51, 52, 53], [0, 4, 54, 55, 56, 57], [3, 58, 59, 60], [5, 14, 61, 62, 63, 64, 65, 66, 67, 68, 69, 70, 71, 72, 73, 74, 75], [7, 76]], results := [.cell 6 6 false], body := (.seq R_phragmen_Count_1_0 (.seq R_phragmen_Count_1_1 (.seq R_phragmen_Count_1_2 (.seq (.seq R_phragmen_Count_1_3 (.block 0 (.loop L_phragmen_Count_1_1))) (.seq R_phragmen_Count_1_10 (.seq R_phragmen_Count_1_11 (.seq R_phragmen_Count_1_12 (.seq R_phragmen_Count_1_13 (.seq R_phragmen_Count_1_14 .ret))))))))) }
noncomputable def T154 : { F : AFunc // CT.func [[], [1, 2, 15, 16, 17, 18, 19, 20, 21, 22], [23], [], [], [27, 28, 29], [13, 30, 31, 32, 33, 34, 35, 36, 37], [12], [10, 11, 38, 39, 40, 41, 42, 43, 44, 45, 46, 47], [10, 11, 38, 48], [8, 24, 25, 26, 27, 49, 50, 51, 52, 53], [0, 4, 54, 55, 56, 57], [3, 58, 59, 60], [5, 14, 61, 62, 63, 64, 65, 66, 67, 68, 69, 70, 71, 72, 73, 74, 75], [7, 76]] Tryz.f154 = some F } := ⟨F_phragmen_Count_1, by kernel_rfl⟩
theorem c154 : Cert 154 T154.1 := cert_of T154.2 Tryz.func154
-- suffrage/phragmen.Cost
def R_phragmen_Cost_0 : AC := .ops false [⟨some 3, .box (.t 0), none, []⟩,
  ⟨some 6, .alloc [.bool false, .lst 0 [] (some 0), .lst 0 [] (some 0)], none, []⟩,
  ⟨some 7, .mov (.c (.bool false)), none, []⟩,
  ⟨some 8, .mov (.c (.int .i64 0)), none, []⟩] [0, 7, 8]
def R_phragmen_Cost_1 : AC := .ops false [⟨some 16, .load 3 false (.t 3), none, []⟩,
  ⟨some 17, .call (.fn 225) [.t 16], none, []⟩,
  ⟨some 18, .un .not (.t 17), none, []⟩,
  ⟨some 15, .mov (.t 18), none, []⟩] [16, 17, 18]
def R_phragmen_Cost_2 : AC := .ops false [⟨some 19, .load 3 false (.t 6), none, []⟩,
  ⟨none, .store 3 (.t 6) (.t 19), none, []⟩,
  ⟨some 7, .mov (.c (.bool false)), none, []⟩,
  ⟨some 8, .mov (.c (.int .i64 8)), none, []⟩] [1, 2, 3, 15, 19]
def R_phragmen_Cost_3 : AC := .ops false [⟨some 21, .mov (.t 2), none, []⟩,
  ⟨some 22, .bin .lss (.t 21) (.c (.int .i64 0)), none, []⟩,
  ⟨some 23, .mov (.t 22), none, []⟩,
  ⟨some 24, .mov (.t 2), some (23, false), []⟩,
  ⟨some 25, .fa (.t 3) 0, some (23, false), []⟩,
  ⟨some 26, .load 1 true (.t 25), some (23, false), []⟩,
  ⟨some 27, .bin .geq (.t 24) (.t 26), some (23, false), []⟩,
  ⟨some 28, .pick (.t 23) (.c (.bool true)) (.t 27), none, []⟩,
  ⟨some 29, .mov (.t 28), none, []⟩,
  ⟨some 30, .mov (.t 1), some (29, false), []⟩,
  ⟨some 31, .len (.t 30), some (29, false), []⟩,
  ⟨some 32, .fa (.t 3) 2, some (29, false), []⟩,
  ⟨some 33, .load 1 true (.t 32), some (29, false), []⟩,
  ⟨some 34, .len (.t 33), some (29, false), []⟩,
  ⟨some 35, .bin .neq (.t 31) (.t 34), some (29, false), []⟩,
  ⟨some 36, .pick (.t 29) (.c (.bool true)) (.t 35), none, []⟩,
  ⟨some 20, .mov (.t 36), none, []⟩] [15, 21, 22, 23, 24, 25, 26, 27, 28, 29, 30, 31, 32, 33, 34, 35, 36]
def R_phragmen_Cost_4 : AC := .ops false [⟨some 37, .load 3 false (.t 6), none, []⟩,
  ⟨none, .store 3 (.t 6) (.t 37), none, []⟩,
  ⟨some 7, .mov (.c (.bool false)), none, []⟩,
  ⟨some 8, .mov (.c (.int .i64 2)), none, []⟩] [1, 2, 3, 20, 37]
def R_phragmen_Cost_5 : AC := .ops false [⟨some 38, .call (.fn 12) [.c (.int .i64 1)], none, []⟩,
  ⟨some 9, .alloc [.bool false, .lst 0 [] (some 0), .lst 0 [] (some 0)], none, []⟩,
  ⟨none, .store 3 (.t 9) (.t 38), none, []⟩,
  ⟨some 10, .mov (.c (.int .i64 0)), none, []⟩] [20, 38]
def R_phragmen_Cost_6 : AC := .ops false [⟨some 39, .fa (.t 3) 2, none, []⟩,
  ⟨some 40, .load 1 true (.t 39), none, []⟩,
  ⟨some 41, .len (.t 40), none, []⟩,
  ⟨some 42, .mov (.c (.int .i64 0)), none, []⟩] [3, 39]
def R_phragmen_Cost_7 : AC := .ops false [⟨some 43, .bin .lss (.t 42) (.t 41), none, []⟩] []
def R_phragmen_Cost_8 : AC := .ops false [⟨some 44, .mov (.t 42), none, []⟩,
  ⟨some 45, .ia 2 (.t 40) (.t 42), none, []⟩,
  ⟨some 46, .load 2 false (.t 45), none, []⟩,
  ⟨some 12, .alloc [.lst 0 [] (some 0), .int .i64 0], none, []⟩,
  ⟨some 11, .mov (.t 44), none, []⟩,
  ⟨none, .store 2 (.t 12) (.t 46), none, []⟩] [43, 44, 45, 46]
def R_phragmen_Cost_9 : AC := .ops false [⟨some 47, .load 2 false (.t 12), none, []⟩,
  ⟨some 48, .mov (.t 2), none, []⟩,
  ⟨some 49, .call (.fn 226) [.t 47, .t 48], none, []⟩,
  ⟨some 50, .un .not (.t 49), none, []⟩] [47, 48, 49]
def R_phragmen_Cost_10 : AC := .ops true [⟨some 52, .fa (.t 12) 1, none, []⟩,
  ⟨some 53, .load 1 true (.t 52), none, [0]⟩,
  ⟨some 54, .call (.fn 12) [.t 53], none, [1]⟩,
  ⟨some 55, .mov (.t 1), none, []⟩,
  ⟨some 56, .mov (.t 11), none, []⟩,
  ⟨some 57, .ia 3 (.t 55) (.t 56), none, [3, 4]⟩,
  ⟨some 58, .load 3 false (.t 57), none, [5]⟩,
  ⟨some 59, .call (.fn 227) [.t 54, .t 58], none, [2, 6, 2]⟩,
  ⟨some 51, .mov (.t 59), none, [7]⟩,
  ⟨some 60, .ext (.t 51) 0, none, [8]⟩,
  ⟨some 61, .ext (.t 51) 1, none, [8]⟩,
  ⟨some 13, .alloc [.bool false, .lst 0 [] (some 0), .lst 0 [] (some 0)], none, []⟩,
  ⟨none, .store 3 (.t 13) (.t 60), none, [11, 9, 7, 0, 1, 2, 3, 4, 5, 6, 7, 8, 9, 11]⟩,
  ⟨some 14, .mov (.t 61), none, [10, 12, 0, 1, 2, 3, 4, 5, 6, 7, 8, 9, 10, 11, 12]⟩] [11, 50, 51, 52, 53, 54, 55, 56, 57, 58, 59, 60, 61]
def R_phragmen_Cost_11 : AC := .ops false [⟨some 62, .mov (.t 14), none, []⟩,
  ⟨some 63, .bin .neq (.t 62) (.c (.int .i64 0)), none, []⟩] [62]
def R_phragmen_Cost_12 : AC := .ops false [⟨some 64, .load 3 false (.t 6), none, []⟩,
  ⟨some 65, .mov (.t 14), none, []⟩,
  ⟨none, .store 3 (.t 6) (.t 64), none, []⟩,
  ⟨some 7, .mov (.c (.bool false)), none, []⟩,
  ⟨some 8, .mov (.t 65), none, []⟩] [1, 2, 9, 10, 12, 13, 14, 40, 41, 42, 63, 64, 65]
def R_phragmen_Cost_13 : AC := .ops false [⟨some 67, .load 3 false (.t 9), none, []⟩,
  ⟨some 68, .load 3 false (.t 13), none, []⟩,
  ⟨some 69, .call (.fn 228) [.t 67, .t 68], none, []⟩,
  ⟨some 66, .mov (.t 69), none, []⟩,
  ⟨some 70, .ext (.t 66) 0, none, []⟩,
  ⟨some 71, .ext (.t 66) 1, none, []⟩,
  ⟨none, .store 3 (.t 9) (.t 70), none, []⟩,
  ⟨some 14, .mov (.t 71), none, []⟩] [13, 63, 66, 67, 68, 69, 70, 71]
def R_phragmen_Cost_14 : AC := .ops false [⟨some 72, .mov (.t 14), none, []⟩,
  ⟨some 73, .bin .neq (.t 72) (.c (.int .i64 0)), none, []⟩] [72]
def R_phragmen_Cost_15 : AC := .ops false [⟨some 74, .load 3 false (.t 6), none, []⟩,
  ⟨some 75, .mov (.t 14), none, []⟩,
  ⟨none, .store 3 (.t 6) (.t 74), none, []⟩,
  ⟨some 7, .mov (.c (.bool false)), none, []⟩,
  ⟨some 8, .mov (.t 75), none, []⟩] [1, 2, 9, 10, 12, 14, 40, 41, 42, 73, 74, 75]
def R_phragmen_Cost_16 : AC := .ops false [⟨some 76, .mov (.t 10), none, []⟩,
  ⟨some 77, .fa (.t 12) 1, none, []⟩,
  ⟨some 78, .load 1 true (.t 77), none, []⟩,
  ⟨some 79, .bin .add (.t 76) (.t 78), none, []⟩,
  ⟨some 10, .mov (.t 79), none, []⟩] [12, 14, 73, 76, 77, 78, 79]
def R_phragmen_Cost_17 : AC := .ops false [⟨some 80, .bin .add (.t 42) (.c (.int .i64 1)), none, []⟩,
  ⟨some 42, .mov (.t 80), none, []⟩] [11, 12, 50, 80]
def L_phragmen_Cost_1 : AC := (.seq R_phragmen_Cost_7 (.seq (.cond (.t 43) .skip (.exit 1)) (.seq (.block 2 (.seq R_phragmen_Cost_8 (.seq (.seq R_phragmen_Cost_9 (.cond (.t 50) (.exit 2) .skip)) (.seq R_phragmen_Cost_10 (.seq (.seq R_phragmen_Cost_11 (.cond (.t 63) (.seq R_phragmen_Cost_12 .ret) .skip)) (.seq (.seq R_phragmen_Cost_13 (.seq R_phragmen_Cost_14 (.cond (.t 73) (.seq R_phragmen_Cost_15 .ret) .skip))) R_phragmen_Cost_16)))))) R_phragmen_Cost_17)))
def R_phragmen_Cost_18 : AC := .ops false [⟨some 81, .mov (.t 10), none, []⟩,
  ⟨some 82, .bin .eql (.t 81) (.c (.int .i64 0)), none, []⟩] [1, 2, 40, 41, 42, 43, 81]
def R_phragmen_Cost_19 : AC := .ops false [⟨some 83, .load 3 false (.t 6), none, []⟩,
  ⟨none, .store 3 (.t 6) (.t 83), none, []⟩,
  ⟨some 7, .mov (.c (.bool false)), none, []⟩,
  ⟨some 8, .mov (.c (.int .i64 0)), none, []⟩] [9, 10, 82, 83]
def R_phragmen_Cost_20 : AC := .ops true [⟨some 85, .load 3 false (.t 9), none, []⟩,
  ⟨some 86, .mov (.t 10), none, []⟩,
  ⟨some 87, .call (.fn 12) [.t 86], none, [1]⟩,
  ⟨some 88, .call (.fn 229) [.t 85, .t 87], none, [0, 2, 2]⟩,
  ⟨some 84, .mov (.t 88), none, [3]⟩,
  ⟨some 89, .ext (.t 84) 0, none, [4]⟩,
  ⟨some 90, .ext (.t 84) 1, none, [4]⟩,
  ⟨none, .store 3 (.t 6) (.t 89), none, [5, 3, 0, 1, 2, 3, 4, 5]⟩,
  ⟨some 8, .mov (.t 90), none, [6, 7, 0, 1, 2, 3, 4, 5, 6, 7]⟩] [9, 10, 82, 84, 85, 86, 87, 88, 89, 90]
def R_phragmen_Cost_21 : AC := .ops false [⟨some 91, .load 3 false (.t 6), none, []⟩,
  ⟨some 92, .mov (.t 8), none, []⟩,
  ⟨some 93, .bin .eql (.t 92) (.c (.int .i64 0)), none, []⟩,
  ⟨some 94, .mov (.t 8), none, []⟩,
  ⟨none, .store 3 (.t 6) (.t 91), none, []⟩,
  ⟨some 7, .mov (.t 93), none, []⟩,
  ⟨some 8, .mov (.t 94), none, []⟩] [91, 92, 93, 94]
def F_phragmen_Cost : AFunc := { ntmps := 95, nargs := 3, kills := [[0, 7, 8], [16, 17, 18], [1, 2, 3, 15, 19], [15, 21, 22, 23, 24, 25, 26, 27, 28, 29, 30, 31, 32, 33, 34, 35, 36], [1, 2, 3, 20, 37], [20, 38], [3, 39], [], [43, 44, 45, 46], [47, 48, 49], [11, 50, 51, 52, 53, 54, 55, 56, 57, 58, 59, 60, 61], [62], [1, 2, 9, 10, 12, 13, 14, 40, 41, 42, 63, 64, 65], [13, 63, 66, 67, 68, 69, 70, 71], [72], [1, 2, 9, 10, 12, 14, 40, 41, 42, 73, 74, 75], [12, 14, 73, 76, 77, 78, 79], [11, 12, 50, 80], [1, 2, 40, 41, 42, 43, 81], [9, 10, 82, 83], [9, 10, 82, 84, 85, 86, 87, 88, 89, 90], [91, 92, 93, 94]], results := [.cell 6 3 false, .t 7, .t 8], body := (.seq R_phragmen_Cost_0 (.seq (.block 0 (.seq R_phragmen_Cost_1 (.cond (.t 15) (.seq R_phragmen_Cost_2 .ret) (.seq R_phragmen_Cost_3 (.cond (.t 20) (.seq R_phragmen_Cost_4 .ret) .skip))))) (.seq R_phragmen_Cost_5 (.seq (.seq R_phragmen_Cost_6 (.block 1 (.loop L_phragmen_Cost_1))) (.seq (.seq R_phragmen_Cost_18 (.cond (.t 82) (.seq R_phragmen_Cost_19 .ret) .skip)) (.seq R_phragmen_Cost_20 (.seq R_phragmen_Cost_21 .ret))))))) }
noncomputable def T155 : { F : AFunc // CT.func [[0, 7, 8], [16, 17, 18], [1, 2, 3, 15, 19], [15, 21, 22, 23, 24, 25, 26, 27, 28, 29, 30, 31, 32, 33, 34, 35, 36], [1, 2, 3, 20, 37], [20, 38], [3, 39], [], [43, 44, 45, 46], [47, 48, 49], [11, 50, 51, 52, 53, 54, 55, 56, 57, 58, 59, 60, 61], [62], [1, 2, 9, 10, 12, 13, 14, 40, 41, 42, 63, 64, 65], [13, 63, 66, 67, 68, 69, 70, 71], [72], [1, 2, 9, 10, 12, 14, 40, 41, 42, 73, 74, 75], [12, 14, 73, 76, 77, 78, 79], [11, 12, 50, 80], [1, 2, 40, 41, 42, 43, 81], [9, 10, 82, 83], [9, 10, 82, 84, 85, 86, 87, 88, 89, 90], [91, 92, 93, 94]] Tryz.f155 = some F } := ⟨F_phragmen_Cost, by kernel_rfl⟩
theorem c155 : Cert 155 T155.1 := cert_of T155.2 Tryz.func155
-- suffrage/phragmen.cheapest
noncomputable def T156 : { F : AFunc // CT.func [[1], [8], [3, 9], [6, 11, 27], [12, 13, 14], [], [15, 16], [17, 18, 19, 20, 21, 22, 23], [17, 24], [25], [7, 25, 26], [6, 27, 28, 29, 30, 31], [5, 10, 12, 32, 33], [0, 34, 35], [0, 34, 36, 37], [38]] Tryz.f156 = some F } := by
  refine ⟨?F, ?h⟩
  case h =>
    conv => lhs; cbv
theorem c156 : Cert 156 T156.1 := cert_of T156.2 Tryz.func156
-- suffrage/phragmen.elect
noncomputable def T157 : { F : AFunc // CT.func [[0], [8, 11, 12, 13, 14, 15, 16, 17, 18], [3, 19], [], [23, 24, 25, 26], [10, 27, 28, 29, 30, 31], [9, 32, 33, 34, 35, 36, 37], [9, 32, 38]] Tryz.f157 = some F } := by
  refine ⟨?F, ?h⟩
  case h =>
    conv => lhs; cbv
theorem c157 : Cert 157 T157.1 := cert_of T157.2 Tryz.func157
-- suffrage/phragmen.Count$1$1
noncomputable def T158 : { F : AFunc // CT.func [[3], [0, 1, 4, 5, 6]] Tryz.f158 = some F } := by
  refine ⟨?F, ?h⟩
  case h =>
    conv => lhs; cbv
theorem c158 : Cert 158 T158.1 := cert_of T158.2 Tryz.func158
-- suffrage/lists.count
def R_lists_count_0 : AC := .ops false [⟨some 4, .box (.t 0), none, []⟩,
  ⟨some 8, .alloc [.lst 0 [] (some 0), .lst 0 [] (some 0), .lst 0 [] (some 0)], none, []⟩,
  ⟨some 9, .mov (.c (.int .i64 0)), none, []⟩] [0, 9]
def R_lists_count_1 : AC := .ops false [⟨some 14, .load 3 false (.t 4), none, []⟩,
  ⟨some 15, .mov (.t 1), none, []⟩,
  ⟨some 16, .mov (.t 2), none, []⟩,
  ⟨some 17, .call (.fn 128) [.t 14, .c (.int .u8 2), .t 15, .c (.int .i64 10), .t 16], none, []⟩,
  ⟨some 10, .mov (.t 17), none, []⟩] [14, 15, 16, 17]
def R_lists_count_2 : AC := .ops false [⟨some 18, .mov (.t 10), none, []⟩,
  ⟨some 19, .bin .neq (.t 18) (.c (.int .i64 0)), none, []⟩] [18]
def R_lists_count_3 : AC := .ops false [⟨some 20, .build [.lst 0 [] (some 0), .lst 0 [] (some 0), .lst 0 [] (some 0)] [], none, []⟩,
  ⟨some 21, .mov (.t 10), none, []⟩,
  ⟨none, .store 3 (.t 8) (.t 20), none, []⟩,
  ⟨some 9, .mov (.t 21), none, []⟩] [1, 2, 3, 4, 10, 19, 20, 21]
def R_lists_count_4 : AC := .ops false [⟨some 22, .mov (.t 2), none, []⟩,
  ⟨some 23, .call (.fn 131) [.t 22], none, []⟩,
  ⟨some 11, .mov (.t 23), none, []⟩] [2, 10, 19, 22, 23]
def R_lists_count_5 : AC := .ops false [⟨some 25, .load 3 false (.t 4), none, []⟩,
  ⟨some 26, .call (.fn 232) [.t 25], none, []⟩,
  ⟨some 24, .mov (.t 26), none, []⟩,
  ⟨some 27, .ext (.t 24) 0, none, []⟩,
  ⟨some 28, .ext (.t 24) 1, none, []⟩,
  ⟨some 12, .mov (.t 27), none, []⟩,
  ⟨some 13, .mov (.t 28), none, []⟩] [4, 24, 25, 26, 27, 28]
def R_lists_count_6 : AC := .ops false [⟨some 29, .mov (.t 11), none, []⟩,
  ⟨some 30, .mov (.t 3), none, []⟩,
  ⟨some 31, .mov (.t 11), none, []⟩,
  ⟨some 32, .mov (.t 12), none, []⟩,
  ⟨some 33, .mov (.t 1), none, []⟩,
  ⟨some 34, .call (.dyn (.t 30)) [.t 31, .t 32, .t 33], none, []⟩,
  ⟨some 35, .nilchk (.t 29), none, []⟩,
  ⟨some 36, .fa (.t 35) 0, none, []⟩,
  ⟨some 37, .fa (.t 36) 0, none, []⟩,
  ⟨none, .store 1 (.t 37) (.t 34), none, []⟩] [1, 3, 29, 30, 31, 32, 33, 34, 35, 36, 37]
def R_lists_count_7 : AC := .ops true [⟨some 38, .mov (.t 11), none, []⟩,
  ⟨some 39, .mov (.t 12), none, []⟩,
  ⟨some 40, .call (.fn 136) [.t 39], none, [1]⟩,
  ⟨some 41, .mov (.t 13), none, []⟩,
  ⟨some 42, .call (.fn 12) [.t 41], none, [3, 2]⟩,
  ⟨some 43, .mov (.t 11), none, []⟩,
  ⟨some 44, .nilchk (.t 43), none, [5]⟩,
  ⟨some 45, .fa (.t 44) 0, none, [6]⟩,
  ⟨some 46, .fa (.t 45) 0, none, [7]⟩,
  ⟨some 47, .load 1 true (.t 46), none, [8]⟩,
  ⟨some 48, .call (.fn 19) [.t 47], none, [9, 4]⟩,
  ⟨some 49, .build [.lst 0 [] (some 0), .bool false, .lst 0 [] (some 0), .lst 0 [] (some 0), .lst 0 [] (some 0), .lst 0 [] (some 0)] [(0, 1, .t 40), (1, 3, .t 42), (4, 1, .t 48)], none, [2, 4, 10]⟩,
  ⟨some 50, .bslice 6 [.lst 0 [] (some 0), .bool false, .lst 0 [] (some 0), .lst 0 [] (some 0), .lst 0 [] (some 0), .lst 0 [] (some 0)] 1 [(0, .t 49)], none, [11]⟩,
  ⟨some 51, .nilchk (.t 38), none, [0, 0, 1, 2, 3, 4, 5, 6, 7, 8, 9, 10, 11, 12]⟩,
  ⟨some 52, .fa (.t 51) 0, none, [13, 0, 1, 2, 3, 4, 5, 6, 7, 8, 9, 10, 11, 12]⟩,
  ⟨some 53, .fa (.t 52) 1, none, [14, 0, 1, 2, 3, 4, 5, 6, 7, 8, 9, 10, 11, 12]⟩,
  ⟨none, .store 1 (.t 53) (.t 50), none, [15, 12, 10, 0, 1, 2, 3, 4, 5, 6, 7, 8, 9, 10, 11, 12]⟩] [12, 13, 38, 39, 40, 41, 42, 43, 44, 45, 46, 47, 48, 49, 50, 51, 52, 53]
def R_lists_count_8 : AC := .ops false [⟨some 54, .mov (.t 11), none, []⟩,
  ⟨some 55, .nilchk (.t 54), none, []⟩,
  ⟨some 56, .fa (.t 55) 0, none, []⟩,
  ⟨some 57, .load 3 false (.t 56), none, []⟩,
  ⟨none, .store 3 (.t 8) (.t 57), none, []⟩,
  ⟨some 9, .mov (.c (.int .i64 0)), none, []⟩] [11, 54, 55, 56, 57]
def F_lists_count : AFunc := { ntmps := 58, nargs := 4, kills := [[0, 9], [14, 15, 16, 17], [18], [1, 2, 3, 4, 10, 19, 20, 21], [2, 10, 19, 22, 23], [4, 24, 25, 26, 27, 28], [1, 3, 29, 30, 31, 32, 33, 34, 35, 36, 37], [12, 13, 38, 39, 40, 41, 42, 43, 44, 45, 46, 47, 48, 49, 50, 51, 52, 53], [11, 54, 55, 56, 57]], results := [.cell 8 3 false, .t 9], body := (.seq R_lists_count_0 (.seq (.seq R_lists_count_1 (.seq R_lists_count_2 (.cond (.t 19) (.seq R_lists_count_3 .ret) .skip))) (.seq R_lists_count_4 (.seq R_lists_count_5 (.seq R_lists_count_6 (.seq R_lists_count_7 (.seq R_lists_count_8 .ret))))))) }
noncomputable def T159 : { F : AFunc // CT.func [[0, 9], [14, 15, 16, 17], [18], [1, 2, 3, 4, 10, 19, 20, 21], [2, 10, 19, 22, 23], [4, 24, 25, 26, 27, 28], [1, 3, 29, 30, 31, 32, 33, 34, 35, 36, 37], [12, 13, 38, 39, 40, 41, 42, 43, 44, 45, 46, 47, 48, 49, 50, 51, 52, 53], [11, 54, 55, 56, 57]] Tryz.f159 = some F } := ⟨F_lists_count, by kernel_rfl⟩
theorem c159 : Cert 159 T159.1 := cert_of T159.2 Tryz.func159
-- suffrage/lists.DHondt$1
noncomputable def T160 : { F : AFunc // CT.func [[2], [0, 3, 4]] Tryz.f160 = some F } := by
  refine ⟨?F, ?h⟩
  case h =>
    conv => lhs; cbv
theorem c160 : Cert 160 T160.1 := cert_of T160.2 Tryz.func160
-- (suffrage/lists.method).allocate
def R_lists_method_allocate_0 : AC := .ops false [⟨some 4, .box (.t 0), none, []⟩,
  ⟨some 6, .box (.t 2), none, []⟩,
  ⟨some 8, .mov (.c (.lst 0 [] (some 0))), none, []⟩] [0, 2]
def R_lists_method_allocate_1 : AC := .ops false [⟨some 12, .load 1 true (.t 6), none, []⟩,
  ⟨some 13, .len (.t 12), none, []⟩,
  ⟨some 14, .mkslice 1 8 [.int .i64 0] (.t 13) (.t 13), none, []⟩,
  ⟨some 9, .alloc [.lst 0 [] (some 0)], none, []⟩,
  ⟨none, .store 1 (.t 9) (.t 14), none, []⟩] [12, 13, 14]
def R_lists_method_allocate_2 : AC := .ops false [⟨some 15, .mov (.t 3), none, []⟩,
  ⟨some 16, .mov (.c (.int .i64 0)), none, []⟩] [3]
def R_lists_method_allocate_3 : AC := .ops false [⟨some 17, .bin .lss (.t 16) (.t 15), none, []⟩] []
def R_lists_method_allocate_4 : AC := .ops false [⟨some 18, .load 1 true (.t 6), none, []⟩,
  ⟨some 19, .len (.t 18), none, []⟩,
  ⟨some 20, .call (.fn 134) [.t 19], none, []⟩,
  ⟨some 21, .mkfn 234 [] [.t 6, .t 4, .t 9], none, []⟩,
  ⟨some 22, .call (.fn 233) [.t 20, .t 21, .f 235], none, []⟩,
  ⟨some 10, .mov (.t 22), none, []⟩] [17, 18, 19, 20, 21, 22]
def R_lists_method_allocate_5 : AC := .ops false [⟨some 23, .mov (.t 1), none, []⟩,
  ⟨some 24, .mov (.t 10), none, []⟩,
  ⟨some 25, .call (.fn 132) [.t 23, .t 24], none, []⟩,
  ⟨some 11, .mov (.t 25), none, []⟩] [10, 23, 24, 25]
def R_lists_method_allocate_6 : AC := .ops false [⟨some 26, .load 1 true (.t 9), none, []⟩,
  ⟨some 27, .mov (.t 11), none, []⟩,
  ⟨some 28, .ia 1 (.t 26) (.t 27), none, []⟩,
  ⟨some 29, .load 1 true (.t 28), none, []⟩,
  ⟨some 30, .bin .add (.t 29) (.c (.int .i64 1)), none, []⟩,
  ⟨some 31, .ia 1 (.t 26) (.t 27), none, []⟩,
  ⟨none, .store 1 (.t 31) (.t 30), none, []⟩] [26, 27, 28, 29, 30, 31]
def R_lists_method_allocate_7 : AC := .ops false [⟨some 32, .mov (.t 8), none, []⟩,
  ⟨some 33, .mov (.t 11), none, []⟩,
  ⟨some 34, .bslice 1 [.int .i64 0] 1 [(0, .t 33)], none, []⟩,
  ⟨some 35, .append 1 8 (.t 32) (.t 34), none, []⟩,
  ⟨some 8, .mov (.t 35), none, []⟩] [11, 32, 33, 34, 35]
def R_lists_method_allocate_8 : AC := .ops false [⟨some 36, .bin .add (.t 16) (.c (.int .i64 1)), none, []⟩,
  ⟨some 16, .mov (.t 36), none, []⟩] [36]
def L_lists_method_allocate_1 : AC := (.seq R_lists_method_allocate_3 (.seq (.cond (.t 17) .skip (.exit 0)) (.seq (.block 1 (.seq R_lists_method_allocate_4 (.seq R_lists_method_allocate_5 (.seq R_lists_method_allocate_6 R_lists_method_allocate_7)))) R_lists_method_allocate_8)))
def R_lists_method_allocate_9 : AC := .ops false [⟨some 37, .mov (.t 8), none, []⟩,
  ⟨some 8, .mov (.t 37), none, []⟩] [1, 4, 6, 9, 15, 16, 17, 37]
def F_lists_method_allocate : AFunc := { ntmps := 38, nargs := 4, kills := [[0, 2], [12, 13, 14], [3], [], [17, 18, 19, 20, 21, 22], [10, 23, 24, 25], [26, 27, 28, 29, 30, 31], [11, 32, 33, 34, 35], [36], [1, 4, 6, 9, 15, 16, 17, 37]], results := [.t 8], body := (.seq R_lists_method_allocate_0 (.seq R_lists_method_allocate_1 (.seq (.seq R_lists_method_allocate_2 (.block 0 (.loop L_lists_method_allocate_1))) (.seq R_lists_method_allocate_9 .ret)))) }
noncomputable def T161 : { F : AFunc // CT.func [[0, 2], [12, 13, 14], [3], [], [17, 18, 19, 20, 21, 22], [10, 23, 24, 25], [26, 27, 28, 29, 30, 31], [11, 32, 33, 34, 35], [36], [1, 4, 6, 9, 15, 16, 17, 37]] Tryz.f161 = some F } := ⟨F_lists_method_allocate, by kernel_rfl⟩
theorem c161 : Cert 161 T161.1 := cert_of T161.2 Tryz.func161
-- suffrage/lists.Sainte$1
noncomputable def T162 : { F : AFunc // CT.func [[2], [0, 3, 4, 5]] Tryz.f162 = some F } := by
  refine ⟨?F, ?h⟩
  case h =>
    conv => lhs; cbv
theorem c162 : Cert 162 T162.1 := cert_of T162.2 Tryz.func162
end Go.Proofs.YtmkaekblmbjhpaaGreat
