/- The functions in the abstract language, worked out by Lean. -/
import Derived.Test.YtmkaekblmbjhpaaGreatAlX
set_option linter.unusedVariables false
set_option maxHeartbeats 1000000
set_option maxRecDepth 100000
namespace Go.Proofs.YtmkaekblmbjhpaaGreat
-- suffrage/choose.Of
noncomputable def T131 : { F : AFunc // CT.func [[2], [0, 3, 4, 5, 6]] Tryz.f131 = some F } := by
  refine ⟨?F, ?h⟩
  case h =>
    conv => lhs; cbv
theorem c131 : Cert 131 T131.1 := cert_of T131.2 Tryz.func131
-- (*suffrage/choose.Count).First
noncomputable def T132 : { F : AFunc // CT.func [[4], [0, 1, 5, 6, 7, 8, 9, 10]] Tryz.f132 = some F } := by
  refine ⟨?F, ?h⟩
  case h =>
    conv => lhs; cbv
theorem c132 : Cert 132 T132.1 := cert_of T132.2 Tryz.func132
-- suffrage/choose.Best
noncomputable def T133 : { F : AFunc // CT.func [[], [0], [], [10, 11, 12], [14, 15, 16, 17, 18, 19, 20, 21, 22, 23, 24, 25, 26, 27], [6, 13, 28, 29], [13, 31, 32, 33, 34, 35, 36, 37, 38, 39], [6, 30, 40, 41, 42, 43], [6, 30, 44], [1, 7, 8, 9, 10, 45]] Tryz.f133 = some F } := by
  refine ⟨?F, ?h⟩
  case h =>
    conv => lhs; cbv
theorem c133 : Cert 133 T133.1 := cert_of T133.2 Tryz.func133
-- suffrage/choose.All
noncomputable def T134 : { F : AFunc // CT.func [[], [0], [], [6, 7], [3, 8, 9, 10, 11], [12], [4, 5, 6, 13]] Tryz.f134 = some F } := by
  refine ⟨?F, ?h⟩
  case h =>
    conv => lhs; cbv
theorem c134 : Cert 134 T134.1 := cert_of T134.2 Tryz.func134
-- suffrage/paths.Count$1
noncomputable def T135 : { F : AFunc // CT.func [[3], [0, 1, 4, 5, 6, 7]] Tryz.f135 = some F } := by
  refine ⟨?F, ?h⟩
  case h =>
    conv => lhs; cbv
theorem c135 : Cert 135 T135.1 := cert_of T135.2 Tryz.func135
-- suffrage/choose.Wholes
noncomputable def T136 : { F : AFunc // CT.func [[], [0], [], [8, 9, 10], [4, 11, 12, 13, 14, 15], [16], [5, 6, 7, 8, 17]] Tryz.f136 = some F } := by
  refine ⟨?F, ?h⟩
  case h =>
    conv => lhs; cbv
theorem c136 : Cert 136 T136.1 := cert_of T136.2 Tryz.func136
-- suffrage/ranked.Lock
noncomputable def T137 : { F : AFunc // CT.func [[0, 7], [1, 2, 3, 11, 12, 13, 14, 15, 16, 17], [8], [], [21, 22, 23], [24, 25, 26, 27, 28, 29], [10, 30, 31, 32, 33, 34], [10, 30, 35], [18, 19, 20, 21, 36, 37]] Tryz.f137 = some F } := by
  refine ⟨?F, ?h⟩
  case h =>
    conv => lhs; cbv
theorem c137 : Cert 137 T137.1 := cert_of T137.2 Tryz.func137
-- slices.Contains[[]suffrage/api.Link,suffrage/api.Link]
noncomputable def T138 : { F : AFunc // CT.func [[1, 4], [0, 3, 5, 6, 7, 8]] Tryz.f138 = some F } := by
  refine ⟨?F, ?h⟩
  case h =>
    conv => lhs; cbv
theorem c138 : Cert 138 T138.1 := cert_of T138.2 Tryz.func138
-- slices.DeleteFunc[[]int,int]
noncomputable def T139 : { F : AFunc // CT.func [[4], [8, 9, 10], [11], [0, 1, 5, 12, 13], [12, 14, 15], [16, 17, 18], [7, 20, 21, 29], [19, 22, 23, 24, 25], [26, 27, 28], [7, 29, 30, 31, 32, 33], [34, 35], [1, 6, 19, 36, 37, 38], [0, 5, 39, 40, 41]] Tryz.f139 = some F } := by
  refine ⟨?F, ?h⟩
  case h =>
    conv => lhs; cbv
theorem c139 : Cert 139 T139.1 := cert_of T139.2 Tryz.func139
-- suffrage/ranked.Count$1
noncomputable def T140 : { F : AFunc // CT.func [[3], [0, 1, 4, 5, 6, 7]] Tryz.f140 = some F } := by
  refine ⟨?F, ?h⟩
  case h =>
    conv => lhs; cbv
theorem c140 : Cert 140 T140.1 := cert_of T140.2 Tryz.func140
-- (*suffrage/runoff.count).round
def R_runoff_count_round_0 : AC := .ops false [⟨some 1, .box (.t 0), none, []⟩,
  ⟨some 2, .mov (.c (.bool false)), none, []⟩] [0, 2]
def R_runoff_count_round_1 : AC := .ops false [⟨some 12, .load 1 true (.t 1), none, []⟩,
  ⟨some 13, .nilchk (.t 12), none, []⟩,
  ⟨some 14, .fa (.t 13) 1, none, []⟩,
  ⟨some 15, .load 3 false (.t 14), none, []⟩,
  ⟨some 16, .mkfn 197 [] [.t 1], none, []⟩,
  ⟨some 17, .call (.fn 196) [.t 15, .t 16], none, []⟩,
  ⟨some 11, .mov (.t 17), none, []⟩,
  ⟨some 18, .ext (.t 11) 0, none, []⟩,
  ⟨some 19, .ext (.t 11) 1, none, []⟩,
  ⟨some 3, .alloc [.lst 0 [] (some 0)], none, []⟩,
  ⟨none, .store 1 (.t 3) (.t 18), none, []⟩,
  ⟨some 4, .mov (.t 19), none, []⟩] [11, 12, 13, 14, 15, 16, 17, 18, 19]
def R_runoff_count_round_2 : AC := .ops false [⟨some 5, .mov (.c (.int .i64 0)), none, []⟩] []
def R_runoff_count_round_3 : AC := .ops false [⟨some 20, .load 1 true (.t 3), none, []⟩,
  ⟨some 21, .len (.t 20), none, []⟩,
  ⟨some 22, .mov (.c (.int .i64 0)), none, []⟩] []
def R_runoff_count_round_4 : AC := .ops false [⟨some 23, .bin .lss (.t 22) (.t 21), none, []⟩] []
def R_runoff_count_round_5 : AC := .ops false [⟨some 24, .ia 1 (.t 20) (.t 22), none, []⟩,
  ⟨some 25, .load 1 true (.t 24), none, []⟩,
  ⟨some 7, .mov (.t 25), none, []⟩] [23, 24, 25]
def R_runoff_count_round_6 : AC := .ops false [⟨some 26, .mov (.t 5), none, []⟩,
  ⟨some 27, .mov (.t 7), none, []⟩,
  ⟨some 28, .bin .add (.t 26) (.t 27), none, []⟩,
  ⟨some 5, .mov (.t 28), none, []⟩] [7, 26, 27, 28]
def R_runoff_count_round_7 : AC := .ops false [⟨some 29, .bin .add (.t 22) (.c (.int .i64 1)), none, []⟩,
  ⟨some 22, .mov (.t 29), none, []⟩] [29]
def L_runoff_count_round_1 : AC := (.seq R_runoff_count_round_4 (.seq (.cond (.t 23) .skip (.exit 0)) (.seq (.block 1 (.seq R_runoff_count_round_5 R_runoff_count_round_6)) R_runoff_count_round_7)))
def R_runoff_count_round_8 : AC := .ops false [⟨some 30, .load 1 true (.t 1), none, []⟩,
  ⟨some 31, .nilchk (.t 30), none, []⟩,
  ⟨some 32, .fa (.t 31) 4, none, []⟩,
  ⟨some 33, .load 1 true (.t 32), none, []⟩,
  ⟨some 34, .mkfn 199 [] [.t 3], none, []⟩,
  ⟨some 35, .call (.fn 133) [.t 33, .t 34], none, []⟩,
  ⟨some 8, .mov (.t 35), none, []⟩] [20, 21, 22, 23, 30, 31, 32, 33, 34, 35]
def R_runoff_count_round_9 : AC := .ops false [⟨some 36, .load 1 true (.t 3), none, []⟩,
  ⟨some 37, .call (.fn 136) [.t 36], none, []⟩,
  ⟨some 38, .mov (.t 4), none, []⟩,
  ⟨some 39, .call (.fn 12) [.t 38], none, []⟩,
  ⟨some 40, .build [.lst 0 [] (some 0), .bool false, .lst 0 [] (some 0), .lst 0 [] (some 0), .lst 0 [] (some 0), .lst 0 [] (some 0)] [(0, 1, .t 37), (1, 3, .t 39)], none, []⟩,
  ⟨some 9, .alloc [.lst 0 [] (some 0), .bool false, .lst 0 [] (some 0), .lst 0 [] (some 0), .lst 0 [] (some 0), .lst 0 [] (some 0)], none, []⟩,
  ⟨none, .store 6 (.t 9) (.t 40), none, []⟩] [4, 36, 37, 38, 39, 40]
def R_runoff_count_round_10 : AC := .ops true [⟨some 41, .load 1 true (.t 1), none, []⟩,
  ⟨some 42, .nilchk (.t 41), none, [0]⟩,
  ⟨some 43, .fa (.t 42) 4, none, [1]⟩,
  ⟨some 44, .load 1 true (.t 43), none, [2]⟩,
  ⟨some 45, .len (.t 44), none, [3]⟩,
  ⟨some 46, .bin .eql (.t 45) (.c (.int .i64 1)), none, [4]⟩,
  ⟨some 47, .mov (.t 46), none, [5]⟩,
  ⟨some 48, .load 1 true (.t 3), some (47, false), [6]⟩,
  ⟨some 49, .mov (.t 8), some (47, false), [6]⟩,
  ⟨some 50, .ia 1 (.t 49) (.c (.int .i64 0)), some (47, false), [8, 6]⟩,
  ⟨some 51, .load 1 true (.t 50), some (47, false), [9, 6]⟩,
  ⟨some 52, .ia 1 (.t 48) (.t 51), some (47, false), [7, 10, 6]⟩,
  ⟨some 53, .load 1 true (.t 52), some (47, false), [11, 6]⟩,
  ⟨some 54, .bin .mul (.c (.int .i64 2)) (.t 53), some (47, false), [12, 6]⟩,
  ⟨some 55, .mov (.t 5), some (47, false), [6]⟩,
  ⟨some 56, .bin .gtr (.t 54) (.t 55), some (47, false), [13, 14, 6]⟩,
  ⟨some 57, .pick (.t 47) (.c (.bool true)) (.t 56), none, [6, 15]⟩] [5, 41, 42, 43, 44, 45, 46, 47, 48, 49, 50, 51, 52, 53, 54, 55, 56]
def R_runoff_count_round_11 : AC := .ops true [⟨some 58, .load 1 true (.t 1), none, []⟩,
  ⟨some 59, .nilchk (.t 58), none, [0]⟩,
  ⟨some 60, .fa (.t 59) 0, none, [1]⟩,
  ⟨some 61, .load 1 true (.t 60), none, [2]⟩,
  ⟨some 62, .mov (.t 8), none, []⟩,
  ⟨some 63, .ia 1 (.t 62) (.c (.int .i64 0)), none, [4]⟩,
  ⟨some 64, .load 1 true (.t 63), none, [5]⟩,
  ⟨some 65, .bslice 1 [.int .i64 0] 1 [(0, .t 64)], none, [6]⟩,
  ⟨some 66, .nilchk (.t 61), none, [3, 0, 1, 2, 3, 4, 5, 6, 7]⟩,
  ⟨some 67, .fa (.t 66) 0, none, [8, 0, 1, 2, 3, 4, 5, 6, 7]⟩,
  ⟨some 68, .fa (.t 67) 0, none, [9, 0, 1, 2, 3, 4, 5, 6, 7]⟩,
  ⟨none, .store 1 (.t 68) (.t 65), none, [10, 7, 0, 1, 2, 3, 4, 5, 6, 7]⟩] [3, 57, 58, 59, 60, 61, 62, 63, 64, 65, 66, 67, 68]
def R_runoff_count_round_12 : AC := .ops false [⟨some 69, .mov (.t 8), none, []⟩,
  ⟨some 70, .ia 1 (.t 69) (.c (.int .i64 0)), none, []⟩,
  ⟨some 71, .load 1 true (.t 70), none, []⟩,
  ⟨some 72, .bslice 1 [.int .i64 0] 1 [(0, .t 71)], none, []⟩,
  ⟨some 73, .fa (.t 9) 4, none, []⟩,
  ⟨none, .store 1 (.t 73) (.t 72), none, []⟩] [8, 69, 70, 71, 72, 73]
def R_runoff_count_round_13 : AC := .ops true [⟨some 74, .load 1 true (.t 1), none, []⟩,
  ⟨some 75, .nilchk (.t 74), none, [0]⟩,
  ⟨some 76, .fa (.t 75) 0, none, [1]⟩,
  ⟨some 77, .load 1 true (.t 76), none, [2]⟩,
  ⟨some 78, .load 1 true (.t 1), none, []⟩,
  ⟨some 79, .nilchk (.t 78), none, [4]⟩,
  ⟨some 80, .fa (.t 79) 4, none, [5]⟩,
  ⟨some 81, .load 1 true (.t 80), none, [6]⟩,
  ⟨some 82, .mkfn 202 [] [.t 3], none, []⟩,
  ⟨some 83, .call (.fn 201) [.t 81, .t 82], none, [7, 8]⟩,
  ⟨some 84, .call (.fn 200) [.t 77, .t 83], none, [3, 9, 9]⟩,
  ⟨some 10, .alloc [.int .i64 0], none, []⟩,
  ⟨none, .store 1 (.t 10) (.t 84), none, [11, 10, 10, 0, 1, 2, 3, 4, 5, 6, 7, 8, 9, 10, 11]⟩] [3, 8, 57, 74, 75, 76, 77, 78, 79, 80, 81, 82, 83, 84]
def R_runoff_count_round_14 : AC := .ops true [⟨some 85, .load 1 true (.t 1), none, []⟩,
  ⟨some 86, .load 1 true (.t 1), none, []⟩,
  ⟨some 87, .nilchk (.t 86), none, [1]⟩,
  ⟨some 88, .fa (.t 87) 4, none, [2]⟩,
  ⟨some 89, .load 1 true (.t 88), none, [3]⟩,
  ⟨some 90, .mkfn 203 [] [.t 10], none, []⟩,
  ⟨some 91, .call (.fn 139) [.t 89, .t 90], none, [4, 5]⟩,
  ⟨some 92, .nilchk (.t 85), none, [0, 0, 1, 2, 3, 4, 5, 6]⟩,
  ⟨some 93, .fa (.t 92) 4, none, [7, 0, 1, 2, 3, 4, 5, 6]⟩,
  ⟨none, .store 1 (.t 93) (.t 91), none, [8, 6, 6, 0, 1, 2, 3, 4, 5, 6]⟩] [85, 86, 87, 88, 89, 90, 91, 92, 93]
def R_runoff_count_round_15 : AC := .ops false [⟨some 94, .load 1 true (.t 10), none, []⟩,
  ⟨some 95, .bslice 1 [.int .i64 0] 1 [(0, .t 94)], none, []⟩,
  ⟨some 96, .fa (.t 9) 5, none, []⟩,
  ⟨none, .store 1 (.t 96) (.t 95), none, []⟩] [10, 94, 95, 96]
def R_runoff_count_round_16 : AC := .ops true [⟨some 97, .load 1 true (.t 1), none, []⟩,
  ⟨some 98, .nilchk (.t 97), none, [0]⟩,
  ⟨some 99, .fa (.t 98) 0, none, [1]⟩,
  ⟨some 100, .load 1 true (.t 99), none, [2]⟩,
  ⟨some 101, .load 1 true (.t 1), none, []⟩,
  ⟨some 102, .nilchk (.t 101), none, [4]⟩,
  ⟨some 103, .fa (.t 102) 0, none, [5]⟩,
  ⟨some 104, .load 1 true (.t 103), none, [6]⟩,
  ⟨some 105, .nilchk (.t 104), none, [7]⟩,
  ⟨some 106, .fa (.t 105) 0, none, [8]⟩,
  ⟨some 107, .fa (.t 106) 1, none, [9]⟩,
  ⟨some 108, .load 1 true (.t 107), none, [10]⟩,
  ⟨some 109, .load 6 false (.t 9), none, []⟩,
  ⟨some 110, .bslice 6 [.lst 0 [] (some 0), .bool false, .lst 0 [] (some 0), .lst 0 [] (some 0), .lst 0 [] (some 0), .lst 0 [] (some 0)] 1 [(0, .t 109)], none, [12]⟩,
  ⟨some 111, .append 6 128 (.t 108) (.t 110), none, [11, 13]⟩,
  ⟨some 112, .nilchk (.t 100), none, [3, 0, 1, 2, 3, 4, 5, 6, 7, 8, 9, 10, 11, 12, 13, 14]⟩,
  ⟨some 113, .fa (.t 112) 0, none, [15, 0, 1, 2, 3, 4, 5, 6, 7, 8, 9, 10, 11, 12, 13, 14]⟩,
  ⟨some 114, .fa (.t 113) 1, none, [16, 0, 1, 2, 3, 4, 5, 6, 7, 8, 9, 10, 11, 12, 13, 14]⟩,
  ⟨none, .store 1 (.t 114) (.t 111), none, [17, 14, 14, 0, 1, 2, 3, 4, 5, 6, 7, 8, 9, 10, 11, 12, 13, 14]⟩] [9, 97, 98, 99, 100, 101, 102, 103, 104, 105, 106, 107, 108, 109, 110, 111, 112, 113, 114]
def R_runoff_count_round_17 : AC := .ops false [⟨some 115, .load 1 true (.t 1), none, []⟩,
  ⟨some 116, .nilchk (.t 115), none, []⟩,
  ⟨some 117, .fa (.t 116) 0, none, []⟩,
  ⟨some 118, .load 1 true (.t 117), none, []⟩,
  ⟨some 119, .nilchk (.t 118), none, []⟩,
  ⟨some 120, .fa (.t 119) 0, none, []⟩,
  ⟨some 121, .fa (.t 120) 0, none, []⟩,
  ⟨some 122, .load 1 true (.t 121), none, []⟩,
  ⟨some 123, .len (.t 122), none, []⟩,
  ⟨some 124, .bin .gtr (.t 123) (.c (.int .i64 0)), none, []⟩,
  ⟨some 2, .mov (.t 124), none, []⟩] [1, 115, 116, 117, 118, 119, 120, 121, 122, 123, 124]
def F_runoff_count_round : AFunc := { ntmps := 125, nargs := 1, kills := [[0, 2], [11, 12, 13, 14, 15, 16, 17, 18, 19], [], [], [], [23, 24, 25], [7, 26, 27, 28], [29], [20, 21, 22, 23, 30, 31, 32, 33, 34, 35], [4, 36, 37, 38, 39, 40], [5, 41, 42, 43, 44, 45, 46, 47, 48, 49, 50, 51, 52, 53, 54, 55, 56], [3, 57, 58, 59, 60, 61, 62, 63, 64, 65, 66, 67, 68], [8, 69, 70, 71, 72, 73], [3, 8, 57, 74, 75, 76, 77, 78, 79, 80, 81, 82, 83, 84], [85, 86, 87, 88, 89, 90, 91, 92, 93], [10, 94, 95, 96], [9, 97, 98, 99, 100, 101, 102, 103, 104, 105, 106, 107, 108, 109, 110, 111, 112, 113, 114], [1, 115, 116, 117, 118, 119, 120, 121, 122, 123, 124]], results := [.t 2], body := (.seq R_runoff_count_round_0 (.seq R_runoff_count_round_1 (.seq R_runoff_count_round_2 (.seq (.seq R_runoff_count_round_3 (.block 0 (.loop L_runoff_count_round_1))) (.seq R_runoff_count_round_8 (.seq R_runoff_count_round_9 (.seq (.seq R_runoff_count_round_10 (.cond (.t 57) (.seq R_runoff_count_round_11 R_runoff_count_round_12) (.seq R_runoff_count_round_13 (.seq R_runoff_count_round_14 R_runoff_count_round_15)))) (.seq R_runoff_count_round_16 (.seq R_runoff_count_round_17 .ret))))))))) }
noncomputable def T141 : { F : AFunc // CT.func [[0, 2], [11, 12, 13, 14, 15, 16, 17, 18, 19], [], [], [], [23, 24, 25], [7, 26, 27, 28], [29], [20, 21, 22, 23, 30, 31, 32, 33, 34, 35], [4, 36, 37, 38, 39, 40], [5, 41, 42, 43, 44, 45, 46, 47, 48, 49, 50, 51, 52, 53, 54, 55, 56], [3, 57, 58, 59, 60, 61, 62, 63, 64, 65, 66, 67, 68], [8, 69, 70, 71, 72, 73], [3, 8, 57, 74, 75, 76, 77, 78, 79, 80, 81, 82, 83, 84], [85, 86, 87, 88, 89, 90, 91, 92, 93], [10, 94, 95, 96], [9, 97, 98, 99, 100, 101, 102, 103, 104, 105, 106, 107, 108, 109, 110, 111, 112, 113, 114], [1, 115, 116, 117, 118, 119, 120, 121, 122, 123, 124]] Tryz.f141 = some F } := ⟨F_runoff_count_round, by kernel_rfl⟩
theorem c141 : Cert 141 T141.1 := cert_of T141.2 Tryz.func141
-- suffrage/coombs.rounds
def R_coombs_rounds_0 : AC := .ops false [⟨some 3, .box (.t 0), none, []⟩,
  ⟨some 6, .alloc [.lst 0 [] (some 0), .lst 0 [] (some 0), .lst 0 [] (some 0)], none, []⟩] [0]
def R_coombs_rounds_1 : AC := .ops true [⟨some 18, .mov (.t 1), none, []⟩,
  ⟨some 19, .call (.fn 131) [.t 18], none, [0]⟩,
  ⟨some 20, .fa (.t 3) 0, none, []⟩,
  ⟨some 21, .load 1 true (.t 20), none, [2]⟩,
  ⟨some 22, .call (.fn 134) [.t 21], none, [3, 1]⟩,
  ⟨some 7, .mov (.t 19), none, [1, 4, 0, 1]⟩,
  ⟨some 8, .mov (.t 22), none, [4, 5, 0, 1, 2, 3, 4, 5]⟩] [1, 18, 19, 20, 21, 22]
def R_coombs_rounds_2 : AC := .ops false [⟨some 23, .fa (.t 3) 0, none, []⟩,
  ⟨some 24, .load 1 true (.t 23), none, []⟩,
  ⟨some 25, .mkslice 1 1 [.bool false] (.t 24) (.t 24), none, []⟩,
  ⟨some 9, .mov (.t 25), none, []⟩] [23, 24, 25]
def R_coombs_rounds_3 : AC := .ops false [⟨some 26, .mov (.t 9), none, []⟩,
  ⟨some 27, .len (.t 26), none, []⟩,
  ⟨some 28, .mov (.c (.int .i64 0)), none, []⟩] [26]
def R_coombs_rounds_4 : AC := .ops false [⟨some 29, .bin .lss (.t 28) (.t 27), none, []⟩] []
def R_coombs_rounds_5 : AC := .ops false [⟨some 30, .mov (.t 28), none, []⟩,
  ⟨some 10, .mov (.t 30), none, []⟩] [29, 30]
def R_coombs_rounds_6 : AC := .ops false [⟨some 31, .mov (.t 9), none, []⟩,
  ⟨some 32, .mov (.t 10), none, []⟩,
  ⟨some 33, .ia 1 (.t 31) (.t 32), none, []⟩,
  ⟨none, .store 1 (.t 33) (.c (.bool true)), none, []⟩] [10, 31, 32, 33]
def R_coombs_rounds_7 : AC := .ops false [⟨some 34, .bin .add (.t 28) (.c (.int .i64 1)), none, []⟩,
  ⟨some 28, .mov (.t 34), none, []⟩] [34]
def L_coombs_rounds_1 : AC := (.seq R_coombs_rounds_4 (.seq (.cond (.t 29) .skip (.exit 0)) (.seq (.block 1 (.seq R_coombs_rounds_5 R_coombs_rounds_6)) R_coombs_rounds_7)))
def R_coombs_rounds_8 : AC := .ops false [⟨some 36, .load 3 false (.t 3), none, []⟩,
  ⟨some 37, .mov (.t 9), none, []⟩,
  ⟨some 38, .call (.fn 204) [.t 36, .t 37], none, []⟩,
  ⟨some 35, .mov (.t 38), none, []⟩,
  ⟨some 39, .ext (.t 35) 0, none, []⟩,
  ⟨some 40, .ext (.t 35) 1, none, []⟩,
  ⟨some 41, .ext (.t 35) 2, none, []⟩,
  ⟨some 11, .mov (.t 39), none, []⟩,
  ⟨some 12, .mov (.t 40), none, []⟩,
  ⟨some 13, .mov (.t 41), none, []⟩] [13, 27, 28, 29, 35, 36, 37, 38, 39, 40, 41]
def R_coombs_rounds_9 : AC := .ops false [⟨some 42, .mov (.t 11), none, []⟩,
  ⟨some 43, .call (.fn 136) [.t 42], none, []⟩,
  ⟨some 44, .mov (.t 12), none, []⟩,
  ⟨some 45, .call (.fn 12) [.t 44], none, []⟩,
  ⟨some 46, .build [.lst 0 [] (some 0), .bool false, .lst 0 [] (some 0), .lst 0 [] (some 0), .lst 0 [] (some 0), .lst 0 [] (some 0)] [(0, 1, .t 43), (1, 3, .t 45)], none, []⟩,
  ⟨some 14, .alloc [.lst 0 [] (some 0), .bool false, .lst 0 [] (some 0), .lst 0 [] (some 0), .lst 0 [] (some 0), .lst 0 [] (some 0)], none, []⟩,
  ⟨none, .store 6 (.t 14) (.t 46), none, []⟩] [12, 42, 43, 44, 45, 46]
def R_coombs_rounds_10 : AC := .ops false [⟨some 48, .mov (.t 2), none, []⟩,
  ⟨some 49, .mov (.t 11), none, []⟩,
  ⟨some 50, .mov (.t 8), none, []⟩,
  ⟨some 51, .call (.meth (.t 48) [(239, 340)]) [.t 49, .t 50], none, []⟩,
  ⟨some 47, .mov (.t 51), none, []⟩,
  ⟨some 52, .ext (.t 47) 0, none, []⟩,
  ⟨some 53, .ext (.t 47) 1, none, []⟩,
  ⟨some 15, .mov (.t 52), none, []⟩,
  ⟨some 16, .mov (.t 53), none, []⟩] [11, 47, 48, 49, 50, 51, 52, 53]
def R_coombs_rounds_11 : AC := .ops false [⟨some 54, .mov (.t 16), none, []⟩] [16]
def R_coombs_rounds_12 : AC := .ops false [⟨some 55, .mov (.t 7), none, []⟩,
  ⟨some 56, .mov (.t 15), none, []⟩,
  ⟨some 57, .bslice 1 [.int .i64 0] 1 [(0, .t 56)], none, []⟩,
  ⟨some 58, .mov (.t 15), none, []⟩,
  ⟨some 59, .bslice 1 [.int .i64 0] 1 [(0, .t 58)], none, []⟩,
  ⟨some 60, .fa (.t 14) 4, none, []⟩,
  ⟨none, .store 1 (.t 60) (.t 57), none, []⟩,
  ⟨some 61, .nilchk (.t 55), none, []⟩,
  ⟨some 62, .fa (.t 61) 0, none, []⟩,
  ⟨some 63, .fa (.t 62) 0, none, []⟩,
  ⟨none, .store 1 (.t 63) (.t 59), none, []⟩] [2, 3, 8, 9, 15, 54, 55, 56, 57, 58, 59, 60, 61, 62, 63]
def R_coombs_rounds_13 : AC := .ops true [⟨some 64, .mov (.t 7), none, []⟩,
  ⟨some 65, .mov (.t 7), none, []⟩,
  ⟨some 66, .nilchk (.t 65), none, [1]⟩,
  ⟨some 67, .fa (.t 66) 0, none, [2]⟩,
  ⟨some 68, .fa (.t 67) 1, none, [3]⟩,
  ⟨some 69, .load 1 true (.t 68), none, [4]⟩,
  ⟨some 70, .load 6 false (.t 14), none, []⟩,
  ⟨some 71, .bslice 6 [.lst 0 [] (some 0), .bool false, .lst 0 [] (some 0), .lst 0 [] (some 0), .lst 0 [] (some 0), .lst 0 [] (some 0)] 1 [(0, .t 70)], none, [6]⟩,
  ⟨some 72, .append 6 128 (.t 69) (.t 71), none, [5, 7]⟩,
  ⟨some 73, .nilchk (.t 64), none, [0, 0, 1, 2, 3, 4, 5, 6, 7, 8]⟩,
  ⟨some 74, .fa (.t 73) 0, none, [9, 0, 1, 2, 3, 4, 5, 6, 7, 8]⟩,
  ⟨some 75, .fa (.t 74) 1, none, [10, 0, 1, 2, 3, 4, 5, 6, 7, 8]⟩,
  ⟨none, .store 1 (.t 75) (.t 72), none, [11, 8, 8, 0, 1, 2, 3, 4, 5, 6, 7, 8]⟩] [14, 64, 65, 66, 67, 68, 69, 70, 71, 72, 73, 74, 75]
def R_coombs_rounds_14 : AC := .ops false [⟨some 76, .mov (.t 7), none, []⟩,
  ⟨some 77, .nilchk (.t 76), none, []⟩,
  ⟨some 78, .fa (.t 77) 0, none, []⟩,
  ⟨some 79, .load 3 false (.t 78), none, []⟩,
  ⟨none, .store 3 (.t 6) (.t 79), none, []⟩] [7, 76, 77, 78, 79]
def R_coombs_rounds_15 : AC := .ops false [⟨some 80, .mov (.t 7), none, []⟩,
  ⟨some 81, .mov (.t 2), none, []⟩,
  ⟨some 82, .mov (.t 8), none, []⟩,
  ⟨some 83, .call (.meth (.t 81) [(239, 341)]) [.t 82], none, []⟩,
  ⟨some 84, .call (.fn 200) [.t 80, .t 83], none, []⟩,
  ⟨some 17, .alloc [.int .i64 0], none, []⟩,
  ⟨none, .store 1 (.t 17) (.t 84), none, []⟩] [15, 54, 80, 81, 82, 83, 84]
def R_coombs_rounds_16 : AC := .ops false [⟨some 85, .mov (.t 9), none, []⟩,
  ⟨some 86, .load 1 true (.t 17), none, []⟩,
  ⟨some 87, .ia 1 (.t 85) (.t 86), none, []⟩,
  ⟨none, .store 1 (.t 87) (.c (.bool false)), none, []⟩] [85, 86, 87]
def R_coombs_rounds_17 : AC := .ops false [⟨some 88, .mov (.t 8), none, []⟩,
  ⟨some 89, .mkfn 205 [] [.t 17], none, []⟩,
  ⟨some 90, .call (.fn 139) [.t 88, .t 89], none, []⟩,
  ⟨some 8, .mov (.t 90), none, []⟩] [88, 89, 90]
def R_coombs_rounds_18 : AC := .ops false [⟨some 91, .load 1 true (.t 17), none, []⟩,
  ⟨some 92, .bslice 1 [.int .i64 0] 1 [(0, .t 91)], none, []⟩,
  ⟨some 93, .fa (.t 14) 5, none, []⟩,
  ⟨none, .store 1 (.t 93) (.t 92), none, []⟩] [17, 91, 92, 93]
def R_coombs_rounds_19 : AC := .ops true [⟨some 94, .mov (.t 7), none, []⟩,
  ⟨some 95, .mov (.t 7), none, []⟩,
  ⟨some 96, .nilchk (.t 95), none, [1]⟩,
  ⟨some 97, .fa (.t 96) 0, none, [2]⟩,
  ⟨some 98, .fa (.t 97) 1, none, [3]⟩,
  ⟨some 99, .load 1 true (.t 98), none, [4]⟩,
  ⟨some 100, .load 6 false (.t 14), none, []⟩,
  ⟨some 101, .bslice 6 [.lst 0 [] (some 0), .bool false, .lst 0 [] (some 0), .lst 0 [] (some 0), .lst 0 [] (some 0), .lst 0 [] (some 0)] 1 [(0, .t 100)], none, [6]⟩,
  ⟨some 102, .append 6 128 (.t 99) (.t 101), none, [5, 7]⟩,
  ⟨some 103, .nilchk (.t 94), none, [0, 0, 1, 2, 3, 4, 5, 6, 7, 8]⟩,
  ⟨some 104, .fa (.t 103) 0, none, [9, 0, 1, 2, 3, 4, 5, 6, 7, 8]⟩,
  ⟨some 105, .fa (.t 104) 1, none, [10, 0, 1, 2, 3, 4, 5, 6, 7, 8]⟩,
  ⟨none, .store 1 (.t 105) (.t 102), none, [11, 8, 8, 0, 1, 2, 3, 4, 5, 6, 7, 8]⟩] [14, 94, 95, 96, 97, 98, 99, 100, 101, 102, 103, 104, 105]
def L_coombs_rounds_2 : AC := (.block 3 (.seq R_coombs_rounds_8 (.seq R_coombs_rounds_9 (.seq (.seq R_coombs_rounds_10 (.seq R_coombs_rounds_11 (.cond (.t 54) (.seq R_coombs_rounds_12 (.seq R_coombs_rounds_13 (.seq R_coombs_rounds_14 .ret))) .skip))) (.seq R_coombs_rounds_15 (.seq R_coombs_rounds_16 (.seq R_coombs_rounds_17 (.seq R_coombs_rounds_18 R_coombs_rounds_19))))))))
def F_coombs_rounds : AFunc := { ntmps := 106, nargs := 3, kills := [[0], [1, 18, 19, 20, 21, 22], [23, 24, 25], [26], [], [29, 30], [10, 31, 32, 33], [34], [13, 27, 28, 29, 35, 36, 37, 38, 39, 40, 41], [12, 42, 43, 44, 45, 46], [11, 47, 48, 49, 50, 51, 52, 53], [16], [2, 3, 8, 9, 15, 54, 55, 56, 57, 58, 59, 60, 61, 62, 63], [14, 64, 65, 66, 67, 68, 69, 70, 71, 72, 73, 74, 75], [7, 76, 77, 78, 79], [15, 54, 80, 81, 82, 83, 84], [85, 86, 87], [88, 89, 90], [17, 91, 92, 93], [14, 94, 95, 96, 97, 98, 99, 100, 101, 102, 103, 104, 105]], results := [.cell 6 3 false], body := (.seq R_coombs_rounds_0 (.seq R_coombs_rounds_1 (.seq R_coombs_rounds_2 (.seq (.seq R_coombs_rounds_3 (.block 0 (.loop L_coombs_rounds_1))) (.block 2 (.loop L_coombs_rounds_2)))))) }
noncomputable def T142 : { F : AFunc // CT.func [[0], [1, 18, 19, 20, 21, 22], [23, 24, 25], [26], [], [29, 30], [10, 31, 32, 33], [34], [13, 27, 28, 29, 35, 36, 37, 38, 39, 40, 41], [12, 42, 43, 44, 45, 46], [11, 47, 48, 49, 50, 51, 52, 53], [16], [2, 3, 8, 9, 15, 54, 55, 56, 57, 58, 59, 60, 61, 62, 63], [14, 64, 65, 66, 67, 68, 69, 70, 71, 72, 73, 74, 75], [7, 76, 77, 78, 79], [15, 54, 80, 81, 82, 83, 84], [85, 86, 87], [88, 89, 90], [17, 91, 92, 93], [14, 94, 95, 96, 97, 98, 99, 100, 101, 102, 103, 104, 105]] Tryz.f142 = some F } := ⟨F_coombs_rounds, by kernel_rfl⟩
theorem c142 : Cert 142 T142.1 := cert_of T142.2 Tryz.func142
-- suffrage/gregory.Quota
noncomputable def T143 : { F : AFunc // CT.func [[0, 4, 5], [8, 9, 10, 11, 12, 13, 14], [1, 2, 15], [2, 7, 15, 16, 17, 18, 19, 20], [1, 6, 21, 22, 23, 24, 25]] Tryz.f143 = some F } := by
  refine ⟨?F, ?h⟩
  case h =>
    conv => lhs; cbv
theorem c143 : Cert 143 T143.1 := cert_of T143.2 Tryz.func143
-- suffrage/profile.Marked
noncomputable def T144 : { F : AFunc // CT.func [[0, 2, 3], [1, 4, 5, 6, 7]] Tryz.f144 = some F } := by
  refine ⟨?F, ?h⟩
  case h =>
    conv => lhs; cbv
theorem c144 : Cert 144 T144.1 := cert_of T144.2 Tryz.func144
-- (*suffrage/gregory.count).round
def R_gregory_count_round_0 : AC := .ops false [⟨some 12, .mov (.t 0), none, []⟩,
  ⟨some 13, .call (.fn 209) [.t 12], none, []⟩,
  ⟨some 11, .mov (.t 13), none, []⟩,
  ⟨some 14, .ext (.t 11) 0, none, []⟩,
  ⟨some 15, .ext (.t 11) 1, none, []⟩,
  ⟨some 2, .alloc [.lst 0 [] (some 0)], none, []⟩,
  ⟨none, .store 1 (.t 2) (.t 14), none, []⟩,
  ⟨some 3, .mov (.t 15), none, []⟩] [11, 12, 13, 14, 15]
def R_gregory_count_round_1 : AC := .ops false [⟨some 16, .mkfn 210 [] [.t 2], none, []⟩,
  ⟨some 4, .mov (.t 16), none, []⟩] [16]
def R_gregory_count_round_2 : AC := .ops true [⟨some 17, .mov (.t 0), none, []⟩,
  ⟨some 18, .call (.fn 211) [.t 17], none, [0]⟩,
  ⟨some 19, .load 1 true (.t 2), none, []⟩,
  ⟨some 20, .call (.fn 212) [.t 19], none, [2, 1]⟩,
  ⟨some 21, .mov (.t 3), none, []⟩,
  ⟨some 22, .bslice 1 [.int .i64 0] 1 [(0, .t 21)], none, [4]⟩,
  ⟨some 23, .call (.fn 212) [.t 22], none, [5, 3]⟩,
  ⟨some 24, .ia 3 (.t 23) (.c (.int .i64 0)), none, [6]⟩,
  ⟨some 25, .load 3 false (.t 24), none, [7]⟩,
  ⟨some 26, .build [.lst 0 [] (some 0), .bool false, .lst 0 [] (some 0), .lst 0 [] (some 0), .lst 0 [] (some 0), .lst 0 [] (some 0)] [(0, 1, .t 20), (1, 3, .t 25)], none, [3, 8]⟩,
  ⟨some 6, .alloc [.lst 0 [] (some 0), .bool false, .lst 0 [] (some 0), .lst 0 [] (some 0), .lst 0 [] (some 0), .lst 0 [] (some 0)], none, []⟩,
  ⟨some 5, .mov (.t 18), none, [1, 6, 0, 1, 10]⟩,
  ⟨none, .store 6 (.t 6) (.t 26), none, [10, 9, 11, 0, 1, 2, 3, 4, 5, 6, 7, 8, 9, 10, 11]⟩] [3, 17, 18, 19, 20, 21, 22, 23, 24, 25, 26]
def R_gregory_count_round_3 : AC := .ops false [⟨some 27, .mov (.t 5), none, []⟩,
  ⟨some 28, .mov (.t 4), none, []⟩,
  ⟨some 29, .call (.fn 133) [.t 27, .t 28], none, []⟩,
  ⟨some 7, .mov (.t 29), none, []⟩] [27, 28, 29]
def R_gregory_count_round_7 : AC := .ops true [⟨some 50, .mov (.t 5), none, []⟩,
  ⟨some 51, .len (.t 50), none, [0]⟩,
  ⟨some 52, .mov (.t 0), none, []⟩,
  ⟨some 53, .nilchk (.t 52), none, [2]⟩,
  ⟨some 54, .fa (.t 53) 3, none, [3]⟩,
  ⟨some 55, .load 1 true (.t 54), none, [4]⟩,
  ⟨some 56, .mov (.t 0), none, []⟩,
  ⟨some 57, .nilchk (.t 56), none, [6]⟩,
  ⟨some 58, .fa (.t 57) 0, none, [7]⟩,
  ⟨some 59, .load 1 true (.t 58), none, [8]⟩,
  ⟨some 60, .nilchk (.t 59), none, [9]⟩,
  ⟨some 61, .fa (.t 60) 0, none, [10]⟩,
  ⟨some 62, .fa (.t 61) 0, none, [11]⟩,
  ⟨some 63, .load 1 true (.t 62), none, [12]⟩,
  ⟨some 64, .len (.t 63), none, [13]⟩,
  ⟨some 65, .bin .sub (.t 55) (.t 64), none, [5, 14]⟩,
  ⟨some 66, .bin .leq (.t 51) (.t 65), none, [1, 15]⟩,
  ⟨some 49, .mov (.t 66), none, [16]⟩] [50, 51, 52, 53, 54, 55, 56, 57, 58, 59, 60, 61, 62, 63, 64, 65, 66]
def R_gregory_count_round_8 : AC := .ops false [⟨some 67, .mov (.t 5), none, []⟩,
  ⟨some 68, .len (.t 67), none, []⟩,
  ⟨some 69, .bin .gtr (.t 68) (.c (.int .i64 0)), none, []⟩] [2, 7, 49, 67, 68]
def R_gregory_count_round_10 : AC := .ops true [⟨some 72, .mov (.t 0), none, []⟩,
  ⟨some 73, .nilchk (.t 72), none, [0]⟩,
  ⟨some 74, .fa (.t 73) 0, none, [1]⟩,
  ⟨some 75, .load 1 true (.t 74), none, [2]⟩,
  ⟨some 76, .mov (.t 5), none, []⟩,
  ⟨some 77, .mov (.t 4), none, []⟩,
  ⟨some 78, .call (.fn 133) [.t 76, .t 77], none, [4, 5]⟩,
  ⟨some 79, .call (.fn 132) [.t 75, .t 78], none, [3, 6, 6]⟩,
  ⟨some 8, .mov (.t 79), none, [7, 7, 0, 1, 2, 3, 4, 5, 6, 7]⟩] [5, 69, 72, 73, 74, 75, 76, 77, 78, 79]
def R_gregory_count_round_11 : AC := .ops false [⟨some 80, .mov (.t 0), none, []⟩,
  ⟨some 81, .mov (.t 8), none, []⟩,
  ⟨some 82, .call (.fn 213) [.t 80, .t 81], none, []⟩] [80, 81, 82]
def R_gregory_count_round_12 : AC := .ops false [⟨some 83, .fa (.t 6) 4, none, []⟩,
  ⟨some 84, .load 1 true (.t 83), none, []⟩,
  ⟨some 85, .mov (.t 8), none, []⟩,
  ⟨some 86, .bslice 1 [.int .i64 0] 1 [(0, .t 85)], none, []⟩,
  ⟨some 87, .append 1 8 (.t 84) (.t 86), none, []⟩,
  ⟨some 88, .fa (.t 6) 4, none, []⟩,
  ⟨none, .store 1 (.t 88) (.t 87), none, []⟩] [8, 83, 84, 85, 86, 87, 88]
def R_gregory_count_round_9 : AC := .ops false [⟨some 70, .mov (.t 0), none, []⟩,
  ⟨some 71, .call (.fn 211) [.t 70], none, []⟩,
  ⟨some 5, .mov (.t 71), none, []⟩] [70, 71]
def L_gregory_count_round_1 : AC := (.seq (.seq R_gregory_count_round_8 (.cond (.t 69) .skip (.exit 1))) (.seq (.block 2 (.seq R_gregory_count_round_10 (.seq R_gregory_count_round_11 R_gregory_count_round_12))) R_gregory_count_round_9))
def R_gregory_count_round_13 : AC := .ops true [⟨some 90, .load 1 true (.t 2), none, []⟩,
  ⟨some 91, .mov (.t 7), none, []⟩,
  ⟨some 92, .ia 1 (.t 91) (.c (.int .i64 0)), none, [1]⟩,
  ⟨some 93, .load 1 true (.t 92), none, [2]⟩,
  ⟨some 94, .ia 1 (.t 90) (.t 93), none, [0, 3]⟩,
  ⟨some 95, .load 1 true (.t 94), none, [4]⟩,
  ⟨some 96, .mov (.t 0), none, []⟩,
  ⟨some 97, .nilchk (.t 96), none, [6]⟩,
  ⟨some 98, .fa (.t 97) 4, none, [7]⟩,
  ⟨some 99, .load 1 true (.t 98), none, [8]⟩,
  ⟨some 100, .bin .geq (.t 95) (.t 99), none, [5, 9]⟩,
  ⟨some 89, .mov (.t 100), none, [10]⟩] [49, 90, 91, 92, 93, 94, 95, 96, 97, 98, 99, 100]
def R_gregory_count_round_14 : AC := .ops false [⟨some 101, .mov (.t 0), none, []⟩,
  ⟨some 102, .nilchk (.t 101), none, []⟩,
  ⟨some 103, .fa (.t 102) 0, none, []⟩,
  ⟨some 104, .load 1 true (.t 103), none, []⟩,
  ⟨some 105, .mov (.t 7), none, []⟩,
  ⟨some 106, .call (.fn 132) [.t 104, .t 105], none, []⟩,
  ⟨some 9, .mov (.t 106), none, []⟩] [4, 5, 7, 89, 101, 102, 103, 104, 105, 106]
def R_gregory_count_round_15 : AC := .ops false [⟨some 107, .mov (.t 0), none, []⟩,
  ⟨some 108, .mov (.t 9), none, []⟩,
  ⟨some 109, .load 1 true (.t 2), none, []⟩,
  ⟨some 110, .mov (.t 9), none, []⟩,
  ⟨some 111, .ia 1 (.t 109) (.t 110), none, []⟩,
  ⟨some 112, .load 1 true (.t 111), none, []⟩,
  ⟨some 113, .call (.fn 214) [.t 107, .t 108, .t 112], none, []⟩] [2, 107, 108, 109, 110, 111, 112, 113]
def R_gregory_count_round_16 : AC := .ops false [⟨some 114, .mov (.t 0), none, []⟩,
  ⟨some 115, .mov (.t 9), none, []⟩,
  ⟨some 116, .call (.fn 213) [.t 114, .t 115], none, []⟩] [114, 115, 116]
def R_gregory_count_round_17 : AC := .ops false [⟨some 117, .mov (.t 9), none, []⟩,
  ⟨some 118, .bslice 1 [.int .i64 0] 1 [(0, .t 117)], none, []⟩,
  ⟨some 119, .fa (.t 6) 4, none, []⟩,
  ⟨none, .store 1 (.t 119) (.t 118), none, []⟩] [9, 117, 118, 119]
def R_gregory_count_round_4 : AC := .ops true [⟨some 30, .mov (.t 0), none, []⟩,
  ⟨some 31, .nilchk (.t 30), none, [0]⟩,
  ⟨some 32, .fa (.t 31) 0, none, [1]⟩,
  ⟨some 33, .load 1 true (.t 32), none, [2]⟩,
  ⟨some 34, .mov (.t 5), none, []⟩,
  ⟨some 35, .mov (.t 4), none, []⟩,
  ⟨some 36, .call (.fn 201) [.t 34, .t 35], none, [4, 5]⟩,
  ⟨some 37, .call (.fn 200) [.t 33, .t 36], none, [3, 6, 6]⟩,
  ⟨some 10, .mov (.t 37), none, [7, 7, 0, 1, 2, 3, 4, 5, 6, 7]⟩] [2, 4, 5, 7, 30, 31, 32, 33, 34, 35, 36, 37, 89]
def R_gregory_count_round_5 : AC := .ops false [⟨some 38, .mov (.t 0), none, []⟩,
  ⟨some 39, .nilchk (.t 38), none, []⟩,
  ⟨some 40, .fa (.t 39) 2, none, []⟩,
  ⟨some 41, .load 1 true (.t 40), none, []⟩,
  ⟨some 42, .mov (.t 10), none, []⟩,
  ⟨some 43, .build [.bool false] [], none, []⟩,
  ⟨some 44, .mkiface 306 (.t 43), none, []⟩,
  ⟨some 45, .ia 1 (.t 41) (.t 42), none, []⟩,
  ⟨none, .store 1 (.t 45) (.t 44), none, []⟩] [38, 39, 40, 41, 42, 43, 44, 45]
def R_gregory_count_round_6 : AC := .ops false [⟨some 46, .mov (.t 10), none, []⟩,
  ⟨some 47, .bslice 1 [.int .i64 0] 1 [(0, .t 46)], none, []⟩,
  ⟨some 48, .fa (.t 6) 5, none, []⟩,
  ⟨none, .store 1 (.t 48) (.t 47), none, []⟩] [10, 46, 47, 48]
def R_gregory_count_round_18 : AC := .ops true [⟨some 120, .mov (.t 0), none, []⟩,
  ⟨some 121, .nilchk (.t 120), none, [0]⟩,
  ⟨some 122, .fa (.t 121) 0, none, [1]⟩,
  ⟨some 123, .load 1 true (.t 122), none, [2]⟩,
  ⟨some 124, .mov (.t 0), none, []⟩,
  ⟨some 125, .nilchk (.t 124), none, [4]⟩,
  ⟨some 126, .fa (.t 125) 0, none, [5]⟩,
  ⟨some 127, .load 1 true (.t 126), none, [6]⟩,
  ⟨some 128, .nilchk (.t 127), none, [7]⟩,
  ⟨some 129, .fa (.t 128) 0, none, [8]⟩,
  ⟨some 130, .fa (.t 129) 1, none, [9]⟩,
  ⟨some 131, .load 1 true (.t 130), none, [10]⟩,
  ⟨some 132, .load 6 false (.t 6), none, []⟩,
  ⟨some 133, .bslice 6 [.lst 0 [] (some 0), .bool false, .lst 0 [] (some 0), .lst 0 [] (some 0), .lst 0 [] (some 0), .lst 0 [] (some 0)] 1 [(0, .t 132)], none, [12]⟩,
  ⟨some 134, .append 6 128 (.t 131) (.t 133), none, [11, 13]⟩,
  ⟨some 135, .nilchk (.t 123), none, [3, 0, 1, 2, 3, 4, 5, 6, 7, 8, 9, 10, 11, 12, 13, 14]⟩,
  ⟨some 136, .fa (.t 135) 0, none, [15, 0, 1, 2, 3, 4, 5, 6, 7, 8, 9, 10, 11, 12, 13, 14]⟩,
  ⟨some 137, .fa (.t 136) 1, none, [16, 0, 1, 2, 3, 4, 5, 6, 7, 8, 9, 10, 11, 12, 13, 14]⟩,
  ⟨none, .store 1 (.t 137) (.t 134), none, [17, 14, 14, 0, 1, 2, 3, 4, 5, 6, 7, 8, 9, 10, 11, 12, 13, 14]⟩] [0, 4, 5, 6, 69, 120, 121, 122, 123, 124, 125, 126, 127, 128, 129, 130, 131, 132, 133, 134, 135, 136, 137]
def F_gregory_count_round : AFunc := { ntmps := 138, nargs := 1, kills := [[11, 12, 13, 14, 15], [16], [3, 17, 18, 19, 20, 21, 22, 23, 24, 25, 26], [27, 28, 29], [2, 4, 5, 7, 30, 31, 32, 33, 34, 35, 36, 37, 89], [38, 39, 40, 41, 42, 43, 44, 45], [10, 46, 47, 48], [50, 51, 52, 53, 54, 55, 56, 57, 58, 59, 60, 61, 62, 63, 64, 65, 66], [2, 7, 49, 67, 68], [70, 71], [5, 69, 72, 73, 74, 75, 76, 77, 78, 79], [80, 81, 82], [8, 83, 84, 85, 86, 87, 88], [49, 90, 91, 92, 93, 94, 95, 96, 97, 98, 99, 100], [4, 5, 7, 89, 101, 102, 103, 104, 105, 106], [2, 107, 108, 109, 110, 111, 112, 113], [114, 115, 116], [9, 117, 118, 119], [0, 4, 5, 6, 69, 120, 121, 122, 123, 124, 125, 126, 127, 128, 129, 130, 131, 132, 133, 134, 135, 136, 137]], results := [], body := (.seq R_gregory_count_round_0 (.seq R_gregory_count_round_1 (.seq R_gregory_count_round_2 (.seq R_gregory_count_round_3 (.seq (.block 0 (.seq R_gregory_count_round_7 (.cond (.t 49) (.block 1 (.loop L_gregory_count_round_1)) (.seq R_gregory_count_round_13 (.cond (.t 89) (.seq R_gregory_count_round_14 (.seq R_gregory_count_round_15 (.seq R_gregory_count_round_16 R_gregory_count_round_17))) (.seq R_gregory_count_round_4 (.seq R_gregory_count_round_5 R_gregory_count_round_6))))))) R_gregory_count_round_18))))) }
noncomputable def T145 : { F : AFunc // CT.func [[11, 12, 13, 14, 15], [16], [3, 17, 18, 19, 20, 21, 22, 23, 24, 25, 26], [27, 28, 29], [2, 4, 5, 7, 30, 31, 32, 33, 34, 35, 36, 37, 89], [38, 39, 40, 41, 42, 43, 44, 45], [10, 46, 47, 48], [50, 51, 52, 53, 54, 55, 56, 57, 58, 59, 60, 61, 62, 63, 64, 65, 66], [2, 7, 49, 67, 68], [70, 71], [5, 69, 72, 73, 74, 75, 76, 77, 78, 79], [80, 81, 82], [8, 83, 84, 85, 86, 87, 88], [49, 90, 91, 92, 93, 94, 95, 96, 97, 98, 99, 100], [4, 5, 7, 89, 101, 102, 103, 104, 105, 106], [2, 107, 108, 109, 110, 111, 112, 113], [114, 115, 116], [9, 117, 118, 119], [0, 4, 5, 6, 69, 120, 121, 122, 123, 124, 125, 126, 127, 128, 129, 130, 131, 132, 133, 134, 135, 136, 137]] Tryz.f145 = some F } := ⟨F_gregory_count_round, by kernel_rfl⟩
theorem c145 : Cert 145 T145.1 := cert_of T145.2 Tryz.func145
-- (*suffrage/meek.count).fills
noncomputable def T146 : { F : AFunc // CT.func [[2], [3, 4, 5, 6, 7, 8, 9, 10, 11, 12, 13, 14, 15, 16, 17, 18, 19, 20, 21], [0, 22], [22, 23, 24, 25, 26, 27], [28, 29, 30, 31, 32, 33, 34, 35, 36, 37], [0, 28]] Tryz.f146 = some F } := by
  refine ⟨?F, ?h⟩
  case h =>
    conv => lhs; cbv
theorem c146 : Cert 146 T146.1 := cert_of T146.2 Tryz.func146
end Go.Proofs.YtmkaekblmbjhpaaGreat
