/- The functions in the abstract language, printed by a program. -/
import Derived.Test.YtgajemhdpjomnaaGreatAlA
set_option linter.unusedVariables false
set_option maxRecDepth 100000
namespace Go.Proofs.YtgajemhdpjomnaaGreat
-- slices.partialInsertionSortOrdered[int]
def R_slices_partialInsertionSortOrdered_0 : AC := .ops false [⟨some 6, .mov (.c (.bool false)), none, []⟩] [6]
def R_slices_partialInsertionSortOrdered_1 : AC := .ops false [⟨some 11, .mov (.t 1), none, []⟩,
  ⟨some 12, .bin .add (.t 11) (.c (.int .i64 1)), none, []⟩,
  ⟨some 7, .mov (.t 12), none, []⟩] [11, 12]
def R_slices_partialInsertionSortOrdered_2 : AC := .ops false [⟨some 8, .mov (.c (.int .i64 0)), none, []⟩] []
def R_slices_partialInsertionSortOrdered_3 : AC := .ops false [⟨some 13, .mov (.t 8), none, []⟩,
  ⟨some 14, .bin .lss (.t 13) (.c (.int .i64 5)), none, []⟩] [13]
def R_slices_partialInsertionSortOrdered_5 : AC := .ops true [⟨some 17, .mov (.t 7), none, []⟩,
  ⟨some 18, .mov (.t 2), none, []⟩,
  ⟨some 19, .bin .lss (.t 17) (.t 18), none, [0, 1]⟩,
  ⟨some 20, .mov (.t 19), none, [2]⟩,
  ⟨some 21, .mov (.t 0), some (20, true), [3]⟩,
  ⟨some 22, .mov (.t 7), some (20, true), [3]⟩,
  ⟨some 23, .ia 1 (.t 21) (.t 22), some (20, true), [4, 5, 3]⟩,
  ⟨some 24, .load 1 true (.t 23), some (20, true), [6, 3]⟩,
  ⟨some 25, .mov (.t 0), some (20, true), [3]⟩,
  ⟨some 26, .mov (.t 7), some (20, true), [3]⟩,
  ⟨some 27, .bin .sub (.t 26) (.c (.int .i64 1)), some (20, true), [9, 3]⟩,
  ⟨some 28, .ia 1 (.t 25) (.t 27), some (20, true), [8, 10, 3]⟩,
  ⟨some 29, .load 1 true (.t 28), some (20, true), [11, 3]⟩,
  ⟨some 30, .call (.fn 156) [.t 24, .t 29], some (20, true), [7, 12, 3, 3]⟩,
  ⟨some 31, .un .not (.t 30), some (20, true), [13, 3]⟩,
  ⟨some 32, .pick (.t 20) (.t 31) (.c (.bool false)), none, [3, 14]⟩] [14, 17, 18, 19, 20, 21, 22, 23, 24, 25, 26, 27, 28, 29, 30, 31]
def R_slices_partialInsertionSortOrdered_6 : AC := .ops false [⟨some 33, .mov (.t 7), none, []⟩,
  ⟨some 34, .bin .add (.t 33) (.c (.int .i64 1)), none, []⟩,
  ⟨some 7, .mov (.t 34), none, []⟩] [32, 33, 34]
def L_slices_partialInsertionSortOrdered_1 : AC := (.seq (.seq R_slices_partialInsertionSortOrdered_5 (.cond (.t 32) .skip (.exit 2))) (.block 3 R_slices_partialInsertionSortOrdered_6))
def R_slices_partialInsertionSortOrdered_7 : AC := .ops false [⟨some 35, .mov (.t 7), none, []⟩,
  ⟨some 36, .mov (.t 2), none, []⟩,
  ⟨some 37, .bin .eql (.t 35) (.t 36), none, []⟩] [32, 35, 36]
def R_slices_partialInsertionSortOrdered_8 : AC := .ops false [⟨some 6, .mov (.c (.bool true)), none, []⟩] [0, 1, 2, 7, 8, 37]
def R_slices_partialInsertionSortOrdered_9 : AC := .ops false [⟨some 38, .mov (.t 2), none, []⟩,
  ⟨some 39, .mov (.t 1), none, []⟩,
  ⟨some 40, .bin .sub (.t 38) (.t 39), none, []⟩,
  ⟨some 41, .bin .lss (.t 40) (.c (.int .i64 50)), none, []⟩] [37, 38, 39, 40]
def R_slices_partialInsertionSortOrdered_10 : AC := .ops false [⟨some 6, .mov (.c (.bool false)), none, []⟩] [0, 1, 2, 7, 8, 41]
def R_slices_partialInsertionSortOrdered_11 : AC := .ops true [⟨some 42, .mov (.t 0), none, []⟩,
  ⟨some 43, .mov (.t 7), none, []⟩,
  ⟨some 44, .mov (.t 0), none, []⟩,
  ⟨some 45, .mov (.t 7), none, []⟩,
  ⟨some 46, .bin .sub (.t 45) (.c (.int .i64 1)), none, [3]⟩,
  ⟨some 47, .mov (.t 0), none, []⟩,
  ⟨some 48, .mov (.t 7), none, []⟩,
  ⟨some 49, .bin .sub (.t 48) (.c (.int .i64 1)), none, [6]⟩,
  ⟨some 50, .ia 1 (.t 47) (.t 49), none, [5, 7]⟩,
  ⟨some 51, .load 1 true (.t 50), none, [8]⟩,
  ⟨some 52, .mov (.t 0), none, []⟩,
  ⟨some 53, .mov (.t 7), none, []⟩,
  ⟨some 54, .ia 1 (.t 52) (.t 53), none, [10, 11]⟩,
  ⟨some 55, .load 1 true (.t 54), none, [12]⟩,
  ⟨some 56, .ia 1 (.t 42) (.t 43), none, [0, 1, 0, 1, 5, 6, 7, 8, 9, 13]⟩,
  ⟨none, .store 1 (.t 56) (.t 51), none, [14, 9, 0, 1, 5, 6, 7, 8, 9, 13]⟩,
  ⟨some 57, .ia 1 (.t 44) (.t 46), none, [2, 4, 0, 1, 2, 3, 4, 5, 6, 7, 8, 9, 10, 11, 12, 13, 14, 15]⟩,
  ⟨none, .store 1 (.t 57) (.t 55), none, [16, 13, 15, 0, 1, 2, 3, 4, 5, 6, 7, 8, 9, 10, 11, 12, 13, 14, 15]⟩] [41, 42, 43, 44, 45, 46, 47, 48, 49, 50, 51, 52, 53, 54, 55, 56, 57]
def R_slices_partialInsertionSortOrdered_12 : AC := .ops false [⟨some 58, .mov (.t 7), none, []⟩,
  ⟨some 59, .mov (.t 1), none, []⟩,
  ⟨some 60, .bin .sub (.t 58) (.t 59), none, []⟩,
  ⟨some 61, .bin .geq (.t 60) (.c (.int .i64 2)), none, []⟩] [58, 59, 60]
def R_slices_partialInsertionSortOrdered_13 : AC := .ops false [⟨some 62, .mov (.t 7), none, []⟩,
  ⟨some 63, .bin .sub (.t 62) (.c (.int .i64 1)), none, []⟩,
  ⟨some 9, .mov (.t 63), none, []⟩] [61, 62, 63]
def R_slices_partialInsertionSortOrdered_14 : AC := .ops false [⟨some 64, .mov (.t 9), none, []⟩,
  ⟨some 65, .bin .geq (.t 64) (.c (.int .i64 1)), none, []⟩] [64]
def R_slices_partialInsertionSortOrdered_16 : AC := .ops true [⟨some 68, .mov (.t 0), none, []⟩,
  ⟨some 69, .mov (.t 9), none, []⟩,
  ⟨some 70, .ia 1 (.t 68) (.t 69), none, [0, 1]⟩,
  ⟨some 71, .load 1 true (.t 70), none, [2]⟩,
  ⟨some 72, .mov (.t 0), none, []⟩,
  ⟨some 73, .mov (.t 9), none, []⟩,
  ⟨some 74, .bin .sub (.t 73) (.c (.int .i64 1)), none, [5]⟩,
  ⟨some 75, .ia 1 (.t 72) (.t 74), none, [4, 6]⟩,
  ⟨some 76, .load 1 true (.t 75), none, [7]⟩,
  ⟨some 77, .call (.fn 156) [.t 71, .t 76], none, [3, 8]⟩,
  ⟨some 78, .un .not (.t 77), none, [9]⟩] [65, 68, 69, 70, 71, 72, 73, 74, 75, 76, 77]
def R_slices_partialInsertionSortOrdered_17 : AC := .ops true [⟨some 79, .mov (.t 0), none, []⟩,
  ⟨some 80, .mov (.t 9), none, []⟩,
  ⟨some 81, .mov (.t 0), none, []⟩,
  ⟨some 82, .mov (.t 9), none, []⟩,
  ⟨some 83, .bin .sub (.t 82) (.c (.int .i64 1)), none, [3]⟩,
  ⟨some 84, .mov (.t 0), none, []⟩,
  ⟨some 85, .mov (.t 9), none, []⟩,
  ⟨some 86, .bin .sub (.t 85) (.c (.int .i64 1)), none, [6]⟩,
  ⟨some 87, .ia 1 (.t 84) (.t 86), none, [5, 7]⟩,
  ⟨some 88, .load 1 true (.t 87), none, [8]⟩,
  ⟨some 89, .mov (.t 0), none, []⟩,
  ⟨some 90, .mov (.t 9), none, []⟩,
  ⟨some 91, .ia 1 (.t 89) (.t 90), none, [10, 11]⟩,
  ⟨some 92, .load 1 true (.t 91), none, [12]⟩,
  ⟨some 93, .ia 1 (.t 79) (.t 80), none, [0, 1, 0, 1, 5, 6, 7, 8, 9, 13]⟩,
  ⟨none, .store 1 (.t 93) (.t 88), none, [14, 9, 0, 1, 5, 6, 7, 8, 9, 13]⟩,
  ⟨some 94, .ia 1 (.t 81) (.t 83), none, [2, 4, 0, 1, 2, 3, 4, 5, 6, 7, 8, 9, 10, 11, 12, 13, 14, 15]⟩,
  ⟨none, .store 1 (.t 94) (.t 92), none, [16, 13, 15, 0, 1, 2, 3, 4, 5, 6, 7, 8, 9, 10, 11, 12, 13, 14, 15]⟩] [78, 79, 80, 81, 82, 83, 84, 85, 86, 87, 88, 89, 90, 91, 92, 93, 94]
def R_slices_partialInsertionSortOrdered_15 : AC := .ops false [⟨some 66, .mov (.t 9), none, []⟩,
  ⟨some 67, .bin .sub (.t 66) (.c (.int .i64 1)), none, []⟩,
  ⟨some 9, .mov (.t 67), none, []⟩] [66, 67]
def L_slices_partialInsertionSortOrdered_2 : AC := (.seq (.seq R_slices_partialInsertionSortOrdered_14 (.cond (.t 65) .skip (.exit 4))) (.seq (.block 5 (.seq (.seq R_slices_partialInsertionSortOrdered_16 (.cond (.t 78) (.exit 4) .skip)) R_slices_partialInsertionSortOrdered_17)) R_slices_partialInsertionSortOrdered_15))
def R_slices_partialInsertionSortOrdered_18 : AC := .ops false [⟨some 95, .mov (.t 2), none, []⟩,
  ⟨some 96, .mov (.t 7), none, []⟩,
  ⟨some 97, .bin .sub (.t 95) (.t 96), none, []⟩,
  ⟨some 98, .bin .geq (.t 97) (.c (.int .i64 2)), none, []⟩] [9, 61, 65, 78, 95, 96, 97]
def R_slices_partialInsertionSortOrdered_19 : AC := .ops false [⟨some 99, .mov (.t 7), none, []⟩,
  ⟨some 100, .bin .add (.t 99) (.c (.int .i64 1)), none, []⟩,
  ⟨some 10, .mov (.t 100), none, []⟩] [98, 99, 100]
def R_slices_partialInsertionSortOrdered_20 : AC := .ops false [⟨some 101, .mov (.t 10), none, []⟩,
  ⟨some 102, .mov (.t 2), none, []⟩,
  ⟨some 103, .bin .lss (.t 101) (.t 102), none, []⟩] [101, 102]
def R_slices_partialInsertionSortOrdered_22 : AC := .ops true [⟨some 106, .mov (.t 0), none, []⟩,
  ⟨some 107, .mov (.t 10), none, []⟩,
  ⟨some 108, .ia 1 (.t 106) (.t 107), none, [0, 1]⟩,
  ⟨some 109, .load 1 true (.t 108), none, [2]⟩,
  ⟨some 110, .mov (.t 0), none, []⟩,
  ⟨some 111, .mov (.t 10), none, []⟩,
  ⟨some 112, .bin .sub (.t 111) (.c (.int .i64 1)), none, [5]⟩,
  ⟨some 113, .ia 1 (.t 110) (.t 112), none, [4, 6]⟩,
  ⟨some 114, .load 1 true (.t 113), none, [7]⟩,
  ⟨some 115, .call (.fn 156) [.t 109, .t 114], none, [3, 8]⟩,
  ⟨some 116, .un .not (.t 115), none, [9]⟩] [103, 106, 107, 108, 109, 110, 111, 112, 113, 114, 115]
def R_slices_partialInsertionSortOrdered_23 : AC := .ops true [⟨some 117, .mov (.t 0), none, []⟩,
  ⟨some 118, .mov (.t 10), none, []⟩,
  ⟨some 119, .mov (.t 0), none, []⟩,
  ⟨some 120, .mov (.t 10), none, []⟩,
  ⟨some 121, .bin .sub (.t 120) (.c (.int .i64 1)), none, [3]⟩,
  ⟨some 122, .mov (.t 0), none, []⟩,
  ⟨some 123, .mov (.t 10), none, []⟩,
  ⟨some 124, .bin .sub (.t 123) (.c (.int .i64 1)), none, [6]⟩,
  ⟨some 125, .ia 1 (.t 122) (.t 124), none, [5, 7]⟩,
  ⟨some 126, .load 1 true (.t 125), none, [8]⟩,
  ⟨some 127, .mov (.t 0), none, []⟩,
  ⟨some 128, .mov (.t 10), none, []⟩,
  ⟨some 129, .ia 1 (.t 127) (.t 128), none, [10, 11]⟩,
  ⟨some 130, .load 1 true (.t 129), none, [12]⟩,
  ⟨some 131, .ia 1 (.t 117) (.t 118), none, [0, 1, 0, 1, 5, 6, 7, 8, 9, 13]⟩,
  ⟨none, .store 1 (.t 131) (.t 126), none, [14, 9, 0, 1, 5, 6, 7, 8, 9, 13]⟩,
  ⟨some 132, .ia 1 (.t 119) (.t 121), none, [2, 4, 0, 1, 2, 3, 4, 5, 6, 7, 8, 9, 10, 11, 12, 13, 14, 15]⟩,
  ⟨none, .store 1 (.t 132) (.t 130), none, [16, 13, 15, 0, 1, 2, 3, 4, 5, 6, 7, 8, 9, 10, 11, 12, 13, 14, 15]⟩] [116, 117, 118, 119, 120, 121, 122, 123, 124, 125, 126, 127, 128, 129, 130, 131, 132]
def R_slices_partialInsertionSortOrdered_21 : AC := .ops false [⟨some 104, .mov (.t 10), none, []⟩,
  ⟨some 105, .bin .add (.t 104) (.c (.int .i64 1)), none, []⟩,
  ⟨some 10, .mov (.t 105), none, []⟩] [104, 105]
def L_slices_partialInsertionSortOrdered_3 : AC := (.seq (.seq R_slices_partialInsertionSortOrdered_20 (.cond (.t 103) .skip (.exit 6))) (.seq (.block 7 (.seq (.seq R_slices_partialInsertionSortOrdered_22 (.cond (.t 116) (.exit 6) .skip)) R_slices_partialInsertionSortOrdered_23)) R_slices_partialInsertionSortOrdered_21))
def R_slices_partialInsertionSortOrdered_4 : AC := .ops false [⟨some 15, .mov (.t 8), none, []⟩,
  ⟨some 16, .bin .add (.t 15) (.c (.int .i64 1)), none, []⟩,
  ⟨some 8, .mov (.t 16), none, []⟩] [10, 15, 16, 98, 103, 116]
def L_slices_partialInsertionSortOrdered_4 : AC := (.seq (.seq R_slices_partialInsertionSortOrdered_3 (.cond (.t 14) .skip (.exit 0))) (.seq (.block 1 (.seq (.block 2 (.loop L_slices_partialInsertionSortOrdered_1)) (.seq (.seq R_slices_partialInsertionSortOrdered_7 (.cond (.t 37) (.seq R_slices_partialInsertionSortOrdered_8 .ret) .skip)) (.seq (.seq R_slices_partialInsertionSortOrdered_9 (.cond (.t 41) (.seq R_slices_partialInsertionSortOrdered_10 .ret) .skip)) (.seq R_slices_partialInsertionSortOrdered_11 (.seq (.seq R_slices_partialInsertionSortOrdered_12 (.cond (.t 61) (.seq R_slices_partialInsertionSortOrdered_13 (.block 4 (.loop L_slices_partialInsertionSortOrdered_2))) .skip)) (.seq R_slices_partialInsertionSortOrdered_18 (.cond (.t 98) (.seq R_slices_partialInsertionSortOrdered_19 (.block 6 (.loop L_slices_partialInsertionSortOrdered_3))) .skip)))))))) R_slices_partialInsertionSortOrdered_4))
def R_slices_partialInsertionSortOrdered_24 : AC := .ops false [⟨some 6, .mov (.c (.bool false)), none, []⟩] [0, 1, 2, 7, 8, 14]
def F_slices_partialInsertionSortOrdered : AFunc := { ntmps := 133, nargs := 3, kills := [[6], [11, 12], [], [13], [10, 15, 16, 98, 103, 116], [14, 17, 18, 19, 20, 21, 22, 23, 24, 25, 26, 27, 28, 29, 30, 31], [32, 33, 34], [32, 35, 36], [0, 1, 2, 7, 8, 37], [37, 38, 39, 40], [0, 1, 2, 7, 8, 41], [41, 42, 43, 44, 45, 46, 47, 48, 49, 50, 51, 52, 53, 54, 55, 56, 57], [58, 59, 60], [61, 62, 63], [64], [66, 67], [65, 68, 69, 70, 71, 72, 73, 74, 75, 76, 77], [78, 79, 80, 81, 82, 83, 84, 85, 86, 87, 88, 89, 90, 91, 92, 93, 94], [9, 61, 65, 78, 95, 96, 97], [98, 99, 100], [101, 102], [104, 105], [103, 106, 107, 108, 109, 110, 111, 112, 113, 114, 115], [116, 117, 118, 119, 120, 121, 122, 123, 124, 125, 126, 127, 128, 129, 130, 131, 132], [0, 1, 2, 7, 8, 14]], results := [.t 6], body := (.seq R_slices_partialInsertionSortOrdered_0 (.seq R_slices_partialInsertionSortOrdered_1 (.seq (.seq R_slices_partialInsertionSortOrdered_2 (.block 0 (.loop L_slices_partialInsertionSortOrdered_4))) (.seq R_slices_partialInsertionSortOrdered_24 .ret)))) }
abbrev k_slices_partialInsertionSortOrdered : Nat := 155
-- cmp.Less[int]
def R_cmp_Less_0 : AC := .ops false [⟨some 4, .mov (.c (.bool false)), none, []⟩] [4]
def R_cmp_Less_1 : AC := .ops false [⟨some 5, .mov (.t 0), none, []⟩,
  ⟨some 6, .call (.fn 181) [.t 5], none, []⟩,
  ⟨some 7, .mov (.t 6), none, []⟩,
  ⟨some 8, .mov (.t 1), some (7, true), []⟩,
  ⟨some 9, .call (.fn 181) [.t 8], some (7, true), []⟩,
  ⟨some 10, .un .not (.t 9), some (7, true), []⟩,
  ⟨some 11, .pick (.t 7) (.t 10) (.c (.bool false)), none, []⟩,
  ⟨some 12, .mov (.t 11), none, []⟩,
  ⟨some 13, .mov (.t 0), some (12, false), []⟩,
  ⟨some 14, .mov (.t 1), some (12, false), []⟩,
  ⟨some 15, .bin .lss (.t 13) (.t 14), some (12, false), []⟩,
  ⟨some 16, .pick (.t 12) (.c (.bool true)) (.t 15), none, []⟩,
  ⟨some 4, .mov (.t 16), none, []⟩] [0, 1, 5, 6, 7, 8, 9, 10, 11, 12, 13, 14, 15, 16]
def F_cmp_Less : AFunc := { ntmps := 17, nargs := 2, kills := [[4], [0, 1, 5, 6, 7, 8, 9, 10, 11, 12, 13, 14, 15, 16]], results := [.t 4], body := (.seq R_cmp_Less_0 (.seq R_cmp_Less_1 .ret)) }
abbrev k_cmp_Less : Nat := 156
-- slices.partitionEqualOrdered[int]
def R_slices_partitionEqualOrdered_0 : AC := .ops false [⟨some 8, .mov (.c (.int .i64 0)), none, []⟩] [8]
def R_slices_partitionEqualOrdered_1 : AC := .ops true [⟨some 11, .mov (.t 0), none, []⟩,
  ⟨some 12, .mov (.t 1), none, []⟩,
  ⟨some 13, .mov (.t 0), none, []⟩,
  ⟨some 14, .mov (.t 3), none, []⟩,
  ⟨some 15, .mov (.t 0), none, []⟩,
  ⟨some 16, .mov (.t 3), none, []⟩,
  ⟨some 17, .ia 1 (.t 15) (.t 16), none, [4, 5]⟩,
  ⟨some 18, .load 1 true (.t 17), none, [6]⟩,
  ⟨some 19, .mov (.t 0), none, []⟩,
  ⟨some 20, .mov (.t 1), none, []⟩,
  ⟨some 21, .ia 1 (.t 19) (.t 20), none, [8, 9]⟩,
  ⟨some 22, .load 1 true (.t 21), none, [10]⟩,
  ⟨some 23, .ia 1 (.t 11) (.t 12), none, [0, 1, 0, 1, 4, 5, 6, 7, 11]⟩,
  ⟨none, .store 1 (.t 23) (.t 18), none, [12, 7, 0, 1, 4, 5, 6, 7, 11]⟩,
  ⟨some 24, .ia 1 (.t 13) (.t 14), none, [2, 3, 0, 1, 2, 3, 4, 5, 6, 7, 8, 9, 10, 11, 12, 13]⟩,
  ⟨none, .store 1 (.t 24) (.t 22), none, [14, 11, 13, 0, 1, 2, 3, 4, 5, 6, 7, 8, 9, 10, 11, 12, 13]⟩] [3, 11, 12, 13, 14, 15, 16, 17, 18, 19, 20, 21, 22, 23, 24]
def R_slices_partitionEqualOrdered_2 : AC := .ops false [⟨some 25, .mov (.t 1), none, []⟩,
  ⟨some 26, .bin .add (.t 25) (.c (.int .i64 1)), none, []⟩,
  ⟨some 27, .mov (.t 2), none, []⟩,
  ⟨some 28, .bin .sub (.t 27) (.c (.int .i64 1)), none, []⟩,
  ⟨some 9, .mov (.t 26), none, []⟩,
  ⟨some 10, .mov (.t 28), none, []⟩] [2, 25, 26, 27, 28]
def R_slices_partitionEqualOrdered_3 : AC := .ops true [⟨some 29, .mov (.t 9), none, []⟩,
  ⟨some 30, .mov (.t 10), none, []⟩,
  ⟨some 31, .bin .leq (.t 29) (.t 30), none, [0, 1]⟩,
  ⟨some 32, .mov (.t 31), none, [2]⟩,
  ⟨some 33, .mov (.t 0), some (32, true), [3]⟩,
  ⟨some 34, .mov (.t 1), some (32, true), [3]⟩,
  ⟨some 35, .ia 1 (.t 33) (.t 34), some (32, true), [4, 5, 3]⟩,
  ⟨some 36, .load 1 true (.t 35), some (32, true), [6, 3]⟩,
  ⟨some 37, .mov (.t 0), some (32, true), [3]⟩,
  ⟨some 38, .mov (.t 9), some (32, true), [3]⟩,
  ⟨some 39, .ia 1 (.t 37) (.t 38), some (32, true), [8, 9, 3]⟩,
  ⟨some 40, .load 1 true (.t 39), some (32, true), [10, 3]⟩,
  ⟨some 41, .call (.fn 156) [.t 36, .t 40], some (32, true), [7, 11, 3, 3]⟩,
  ⟨some 42, .un .not (.t 41), some (32, true), [12, 3]⟩,
  ⟨some 43, .pick (.t 32) (.t 42) (.c (.bool false)), none, [3, 13]⟩] [29, 30, 31, 32, 33, 34, 35, 36, 37, 38, 39, 40, 41, 42]
def R_slices_partitionEqualOrdered_4 : AC := .ops false [⟨some 44, .mov (.t 9), none, []⟩,
  ⟨some 45, .bin .add (.t 44) (.c (.int .i64 1)), none, []⟩,
  ⟨some 9, .mov (.t 45), none, []⟩] [43, 44, 45]
def L_slices_partitionEqualOrdered_1 : AC := (.seq (.seq R_slices_partitionEqualOrdered_3 (.cond (.t 43) .skip (.exit 2))) (.block 3 R_slices_partitionEqualOrdered_4))
def R_slices_partitionEqualOrdered_5 : AC := .ops true [⟨some 46, .mov (.t 9), none, []⟩,
  ⟨some 47, .mov (.t 10), none, []⟩,
  ⟨some 48, .bin .leq (.t 46) (.t 47), none, [0, 1]⟩,
  ⟨some 49, .mov (.t 48), none, [2]⟩,
  ⟨some 50, .mov (.t 0), some (49, true), [3]⟩,
  ⟨some 51, .mov (.t 1), some (49, true), [3]⟩,
  ⟨some 52, .ia 1 (.t 50) (.t 51), some (49, true), [4, 5, 3]⟩,
  ⟨some 53, .load 1 true (.t 52), some (49, true), [6, 3]⟩,
  ⟨some 54, .mov (.t 0), some (49, true), [3]⟩,
  ⟨some 55, .mov (.t 10), some (49, true), [3]⟩,
  ⟨some 56, .ia 1 (.t 54) (.t 55), some (49, true), [8, 9, 3]⟩,
  ⟨some 57, .load 1 true (.t 56), some (49, true), [10, 3]⟩,
  ⟨some 58, .call (.fn 156) [.t 53, .t 57], some (49, true), [7, 11, 3, 3]⟩,
  ⟨some 59, .pick (.t 49) (.t 58) (.c (.bool false)), none, [3, 12]⟩] [43, 46, 47, 48, 49, 50, 51, 52, 53, 54, 55, 56, 57, 58]
def R_slices_partitionEqualOrdered_6 : AC := .ops false [⟨some 60, .mov (.t 10), none, []⟩,
  ⟨some 61, .bin .sub (.t 60) (.c (.int .i64 1)), none, []⟩,
  ⟨some 10, .mov (.t 61), none, []⟩] [59, 60, 61]
def L_slices_partitionEqualOrdered_2 : AC := (.seq (.seq R_slices_partitionEqualOrdered_5 (.cond (.t 59) .skip (.exit 4))) (.block 5 R_slices_partitionEqualOrdered_6))
def R_slices_partitionEqualOrdered_7 : AC := .ops false [⟨some 62, .mov (.t 9), none, []⟩,
  ⟨some 63, .mov (.t 10), none, []⟩,
  ⟨some 64, .bin .gtr (.t 62) (.t 63), none, []⟩] [59, 62, 63]
def R_slices_partitionEqualOrdered_8 : AC := .ops true [⟨some 65, .mov (.t 0), none, []⟩,
  ⟨some 66, .mov (.t 9), none, []⟩,
  ⟨some 67, .mov (.t 0), none, []⟩,
  ⟨some 68, .mov (.t 10), none, []⟩,
  ⟨some 69, .mov (.t 0), none, []⟩,
  ⟨some 70, .mov (.t 10), none, []⟩,
  ⟨some 71, .ia 1 (.t 69) (.t 70), none, [4, 5]⟩,
  ⟨some 72, .load 1 true (.t 71), none, [6]⟩,
  ⟨some 73, .mov (.t 0), none, []⟩,
  ⟨some 74, .mov (.t 9), none, []⟩,
  ⟨some 75, .ia 1 (.t 73) (.t 74), none, [8, 9]⟩,
  ⟨some 76, .load 1 true (.t 75), none, [10]⟩,
  ⟨some 77, .ia 1 (.t 65) (.t 66), none, [0, 1, 0, 1, 4, 5, 6, 7, 11]⟩,
  ⟨none, .store 1 (.t 77) (.t 72), none, [12, 7, 0, 1, 4, 5, 6, 7, 11]⟩,
  ⟨some 78, .ia 1 (.t 67) (.t 68), none, [2, 3, 0, 1, 2, 3, 4, 5, 6, 7, 8, 9, 10, 11, 12, 13]⟩,
  ⟨none, .store 1 (.t 78) (.t 76), none, [14, 11, 13, 0, 1, 2, 3, 4, 5, 6, 7, 8, 9, 10, 11, 12, 13]⟩] [64, 65, 66, 67, 68, 69, 70, 71, 72, 73, 74, 75, 76, 77, 78]
def R_slices_partitionEqualOrdered_9 : AC := .ops false [⟨some 79, .mov (.t 9), none, []⟩,
  ⟨some 80, .bin .add (.t 79) (.c (.int .i64 1)), none, []⟩,
  ⟨some 9, .mov (.t 80), none, []⟩] [79, 80]
def R_slices_partitionEqualOrdered_10 : AC := .ops false [⟨some 81, .mov (.t 10), none, []⟩,
  ⟨some 82, .bin .sub (.t 81) (.c (.int .i64 1)), none, []⟩,
  ⟨some 10, .mov (.t 82), none, []⟩] [81, 82]
def L_slices_partitionEqualOrdered_3 : AC := (.block 1 (.seq (.block 2 (.loop L_slices_partitionEqualOrdered_1)) (.seq (.block 4 (.loop L_slices_partitionEqualOrdered_2)) (.seq (.seq R_slices_partitionEqualOrdered_7 (.cond (.t 64) (.exit 0) .skip)) (.seq R_slices_partitionEqualOrdered_8 (.seq R_slices_partitionEqualOrdered_9 R_slices_partitionEqualOrdered_10))))))
def R_slices_partitionEqualOrdered_11 : AC := .ops false [⟨some 83, .mov (.t 9), none, []⟩,
  ⟨some 8, .mov (.t 83), none, []⟩] [0, 1, 9, 10, 64, 83]
def F_slices_partitionEqualOrdered : AFunc := { ntmps := 84, nargs := 4, kills := [[8], [3, 11, 12, 13, 14, 15, 16, 17, 18, 19, 20, 21, 22, 23, 24], [2, 25, 26, 27, 28], [29, 30, 31, 32, 33, 34, 35, 36, 37, 38, 39, 40, 41, 42], [43, 44, 45], [43, 46, 47, 48, 49, 50, 51, 52, 53, 54, 55, 56, 57, 58], [59, 60, 61], [59, 62, 63], [64, 65, 66, 67, 68, 69, 70, 71, 72, 73, 74, 75, 76, 77, 78], [79, 80], [81, 82], [0, 1, 9, 10, 64, 83]], results := [.t 8], body := (.seq R_slices_partitionEqualOrdered_0 (.seq R_slices_partitionEqualOrdered_1 (.seq R_slices_partitionEqualOrdered_2 (.seq (.block 0 (.loop L_slices_partitionEqualOrdered_3)) (.seq R_slices_partitionEqualOrdered_11 .ret))))) }
abbrev k_slices_partitionEqualOrdered : Nat := 157
-- slices.partitionOrdered[int]
def R_slices_partitionOrdered_0 : AC := .ops false [⟨some 8, .mov (.c (.int .i64 0)), none, []⟩,
  ⟨some 9, .mov (.c (.bool false)), none, []⟩] [8, 9]
def R_slices_partitionOrdered_1 : AC := .ops true [⟨some 12, .mov (.t 0), none, []⟩,
  ⟨some 13, .mov (.t 1), none, []⟩,
  ⟨some 14, .mov (.t 0), none, []⟩,
  ⟨some 15, .mov (.t 3), none, []⟩,
  ⟨some 16, .mov (.t 0), none, []⟩,
  ⟨some 17, .mov (.t 3), none, []⟩,
  ⟨some 18, .ia 1 (.t 16) (.t 17), none, [4, 5]⟩,
  ⟨some 19, .load 1 true (.t 18), none, [6]⟩,
  ⟨some 20, .mov (.t 0), none, []⟩,
  ⟨some 21, .mov (.t 1), none, []⟩,
  ⟨some 22, .ia 1 (.t 20) (.t 21), none, [8, 9]⟩,
  ⟨some 23, .load 1 true (.t 22), none, [10]⟩,
  ⟨some 24, .ia 1 (.t 12) (.t 13), none, [0, 1, 0, 1, 4, 5, 6, 7, 11]⟩,
  ⟨none, .store 1 (.t 24) (.t 19), none, [12, 7, 0, 1, 4, 5, 6, 7, 11]⟩,
  ⟨some 25, .ia 1 (.t 14) (.t 15), none, [2, 3, 0, 1, 2, 3, 4, 5, 6, 7, 8, 9, 10, 11, 12, 13]⟩,
  ⟨none, .store 1 (.t 25) (.t 23), none, [14, 11, 13, 0, 1, 2, 3, 4, 5, 6, 7, 8, 9, 10, 11, 12, 13]⟩] [3, 12, 13, 14, 15, 16, 17, 18, 19, 20, 21, 22, 23, 24, 25]
def R_slices_partitionOrdered_2 : AC := .ops false [⟨some 26, .mov (.t 1), none, []⟩,
  ⟨some 27, .bin .add (.t 26) (.c (.int .i64 1)), none, []⟩,
  ⟨some 28, .mov (.t 2), none, []⟩,
  ⟨some 29, .bin .sub (.t 28) (.c (.int .i64 1)), none, []⟩,
  ⟨some 10, .mov (.t 27), none, []⟩,
  ⟨some 11, .mov (.t 29), none, []⟩] [2, 26, 27, 28, 29]
def R_slices_partitionOrdered_3 : AC := .ops true [⟨some 30, .mov (.t 10), none, []⟩,
  ⟨some 31, .mov (.t 11), none, []⟩,
  ⟨some 32, .bin .leq (.t 30) (.t 31), none, [0, 1]⟩,
  ⟨some 33, .mov (.t 32), none, [2]⟩,
  ⟨some 34, .mov (.t 0), some (33, true), [3]⟩,
  ⟨some 35, .mov (.t 10), some (33, true), [3]⟩,
  ⟨some 36, .ia 1 (.t 34) (.t 35), some (33, true), [4, 5, 3]⟩,
  ⟨some 37, .load 1 true (.t 36), some (33, true), [6, 3]⟩,
  ⟨some 38, .mov (.t 0), some (33, true), [3]⟩,
  ⟨some 39, .mov (.t 1), some (33, true), [3]⟩,
  ⟨some 40, .ia 1 (.t 38) (.t 39), some (33, true), [8, 9, 3]⟩,
  ⟨some 41, .load 1 true (.t 40), some (33, true), [10, 3]⟩,
  ⟨some 42, .call (.fn 156) [.t 37, .t 41], some (33, true), [7, 11, 3, 3]⟩,
  ⟨some 43, .pick (.t 33) (.t 42) (.c (.bool false)), none, [3, 12]⟩] [30, 31, 32, 33, 34, 35, 36, 37, 38, 39, 40, 41, 42]
def R_slices_partitionOrdered_4 : AC := .ops false [⟨some 44, .mov (.t 10), none, []⟩,
  ⟨some 45, .bin .add (.t 44) (.c (.int .i64 1)), none, []⟩,
  ⟨some 10, .mov (.t 45), none, []⟩] [43, 44, 45]
def L_slices_partitionOrdered_1 : AC := (.seq (.seq R_slices_partitionOrdered_3 (.cond (.t 43) .skip (.exit 0))) (.block 1 R_slices_partitionOrdered_4))
def R_slices_partitionOrdered_5 : AC := .ops true [⟨some 46, .mov (.t 10), none, []⟩,
  ⟨some 47, .mov (.t 11), none, []⟩,
  ⟨some 48, .bin .leq (.t 46) (.t 47), none, [0, 1]⟩,
  ⟨some 49, .mov (.t 48), none, [2]⟩,
  ⟨some 50, .mov (.t 0), some (49, true), [3]⟩,
  ⟨some 51, .mov (.t 11), some (49, true), [3]⟩,
  ⟨some 52, .ia 1 (.t 50) (.t 51), some (49, true), [4, 5, 3]⟩,
  ⟨some 53, .load 1 true (.t 52), some (49, true), [6, 3]⟩,
  ⟨some 54, .mov (.t 0), some (49, true), [3]⟩,
  ⟨some 55, .mov (.t 1), some (49, true), [3]⟩,
  ⟨some 56, .ia 1 (.t 54) (.t 55), some (49, true), [8, 9, 3]⟩,
  ⟨some 57, .load 1 true (.t 56), some (49, true), [10, 3]⟩,
  ⟨some 58, .call (.fn 156) [.t 53, .t 57], some (49, true), [7, 11, 3, 3]⟩,
  ⟨some 59, .un .not (.t 58), some (49, true), [12, 3]⟩,
  ⟨some 60, .pick (.t 49) (.t 59) (.c (.bool false)), none, [3, 13]⟩] [43, 46, 47, 48, 49, 50, 51, 52, 53, 54, 55, 56, 57, 58, 59]
def R_slices_partitionOrdered_6 : AC := .ops false [⟨some 61, .mov (.t 11), none, []⟩,
  ⟨some 62, .bin .sub (.t 61) (.c (.int .i64 1)), none, []⟩,
  ⟨some 11, .mov (.t 62), none, []⟩] [60, 61, 62]
def L_slices_partitionOrdered_2 : AC := (.seq (.seq R_slices_partitionOrdered_5 (.cond (.t 60) .skip (.exit 2))) (.block 3 R_slices_partitionOrdered_6))
def R_slices_partitionOrdered_7 : AC := .ops false [⟨some 63, .mov (.t 10), none, []⟩,
  ⟨some 64, .mov (.t 11), none, []⟩,
  ⟨some 65, .bin .gtr (.t 63) (.t 64), none, []⟩] [60, 63, 64]
def R_slices_partitionOrdered_8 : AC := .ops true [⟨some 66, .mov (.t 0), none, []⟩,
  ⟨some 67, .mov (.t 11), none, []⟩,
  ⟨some 68, .mov (.t 0), none, []⟩,
  ⟨some 69, .mov (.t 1), none, []⟩,
  ⟨some 70, .mov (.t 0), none, []⟩,
  ⟨some 71, .mov (.t 1), none, []⟩,
  ⟨some 72, .ia 1 (.t 70) (.t 71), none, [4, 5]⟩,
  ⟨some 73, .load 1 true (.t 72), none, [6]⟩,
  ⟨some 74, .mov (.t 0), none, []⟩,
  ⟨some 75, .mov (.t 11), none, []⟩,
  ⟨some 76, .ia 1 (.t 74) (.t 75), none, [8, 9]⟩,
  ⟨some 77, .load 1 true (.t 76), none, [10]⟩,
  ⟨some 78, .ia 1 (.t 66) (.t 67), none, [0, 1, 0, 1, 4, 5, 6, 7, 11]⟩,
  ⟨none, .store 1 (.t 78) (.t 73), none, [12, 7, 0, 1, 4, 5, 6, 7, 11]⟩,
  ⟨some 79, .ia 1 (.t 68) (.t 69), none, [2, 3, 0, 1, 2, 3, 4, 5, 6, 7, 8, 9, 10, 11, 12, 13]⟩,
  ⟨none, .store 1 (.t 79) (.t 77), none, [14, 11, 13, 0, 1, 2, 3, 4, 5, 6, 7, 8, 9, 10, 11, 12, 13]⟩] [0, 1, 10, 65, 66, 67, 68, 69, 70, 71, 72, 73, 74, 75, 76, 77, 78, 79]
def R_slices_partitionOrdered_9 : AC := .ops false [⟨some 80, .mov (.t 11), none, []⟩,
  ⟨some 8, .mov (.t 80), none, []⟩,
  ⟨some 9, .mov (.c (.bool true)), none, []⟩] [11, 80]
def R_slices_partitionOrdered_10 : AC := .ops true [⟨some 81, .mov (.t 0), none, []⟩,
  ⟨some 82, .mov (.t 10), none, []⟩,
  ⟨some 83, .mov (.t 0), none, []⟩,
  ⟨some 84, .mov (.t 11), none, []⟩,
  ⟨some 85, .mov (.t 0), none, []⟩,
  ⟨some 86, .mov (.t 11), none, []⟩,
  ⟨some 87, .ia 1 (.t 85) (.t 86), none, [4, 5]⟩,
  ⟨some 88, .load 1 true (.t 87), none, [6]⟩,
  ⟨some 89, .mov (.t 0), none, []⟩,
  ⟨some 90, .mov (.t 10), none, []⟩,
  ⟨some 91, .ia 1 (.t 89) (.t 90), none, [8, 9]⟩,
  ⟨some 92, .load 1 true (.t 91), none, [10]⟩,
  ⟨some 93, .ia 1 (.t 81) (.t 82), none, [0, 1, 0, 1, 4, 5, 6, 7, 11]⟩,
  ⟨none, .store 1 (.t 93) (.t 88), none, [12, 7, 0, 1, 4, 5, 6, 7, 11]⟩,
  ⟨some 94, .ia 1 (.t 83) (.t 84), none, [2, 3, 0, 1, 2, 3, 4, 5, 6, 7, 8, 9, 10, 11, 12, 13]⟩,
  ⟨none, .store 1 (.t 94) (.t 92), none, [14, 11, 13, 0, 1, 2, 3, 4, 5, 6, 7, 8, 9, 10, 11, 12, 13]⟩] [65, 81, 82, 83, 84, 85, 86, 87, 88, 89, 90, 91, 92, 93, 94]
def R_slices_partitionOrdered_11 : AC := .ops false [⟨some 95, .mov (.t 10), none, []⟩,
  ⟨some 96, .bin .add (.t 95) (.c (.int .i64 1)), none, []⟩,
  ⟨some 10, .mov (.t 96), none, []⟩] [95, 96]
def R_slices_partitionOrdered_12 : AC := .ops false [⟨some 97, .mov (.t 11), none, []⟩,
  ⟨some 98, .bin .sub (.t 97) (.c (.int .i64 1)), none, []⟩,
  ⟨some 11, .mov (.t 98), none, []⟩] [97, 98]
def R_slices_partitionOrdered_13 : AC := .ops true [⟨some 99, .mov (.t 10), none, []⟩,
  ⟨some 100, .mov (.t 11), none, []⟩,
  ⟨some 101, .bin .leq (.t 99) (.t 100), none, [0, 1]⟩,
  ⟨some 102, .mov (.t 101), none, [2]⟩,
  ⟨some 103, .mov (.t 0), some (102, true), [3]⟩,
  ⟨some 104, .mov (.t 10), some (102, true), [3]⟩,
  ⟨some 105, .ia 1 (.t 103) (.t 104), some (102, true), [4, 5, 3]⟩,
  ⟨some 106, .load 1 true (.t 105), some (102, true), [6, 3]⟩,
  ⟨some 107, .mov (.t 0), some (102, true), [3]⟩,
  ⟨some 108, .mov (.t 1), some (102, true), [3]⟩,
  ⟨some 109, .ia 1 (.t 107) (.t 108), some (102, true), [8, 9, 3]⟩,
  ⟨some 110, .load 1 true (.t 109), some (102, true), [10, 3]⟩,
  ⟨some 111, .call (.fn 156) [.t 106, .t 110], some (102, true), [7, 11, 3, 3]⟩,
  ⟨some 112, .pick (.t 102) (.t 111) (.c (.bool false)), none, [3, 12]⟩] [99, 100, 101, 102, 103, 104, 105, 106, 107, 108, 109, 110, 111]
def R_slices_partitionOrdered_14 : AC := .ops false [⟨some 113, .mov (.t 10), none, []⟩,
  ⟨some 114, .bin .add (.t 113) (.c (.int .i64 1)), none, []⟩,
  ⟨some 10, .mov (.t 114), none, []⟩] [112, 113, 114]
def L_slices_partitionOrdered_3 : AC := (.seq (.seq R_slices_partitionOrdered_13 (.cond (.t 112) .skip (.exit 6))) (.block 7 R_slices_partitionOrdered_14))
def R_slices_partitionOrdered_15 : AC := .ops true [⟨some 115, .mov (.t 10), none, []⟩,
  ⟨some 116, .mov (.t 11), none, []⟩,
  ⟨some 117, .bin .leq (.t 115) (.t 116), none, [0, 1]⟩,
  ⟨some 118, .mov (.t 117), none, [2]⟩,
  ⟨some 119, .mov (.t 0), some (118, true), [3]⟩,
  ⟨some 120, .mov (.t 11), some (118, true), [3]⟩,
  ⟨some 121, .ia 1 (.t 119) (.t 120), some (118, true), [4, 5, 3]⟩,
  ⟨some 122, .load 1 true (.t 121), some (118, true), [6, 3]⟩,
  ⟨some 123, .mov (.t 0), some (118, true), [3]⟩,
  ⟨some 124, .mov (.t 1), some (118, true), [3]⟩,
  ⟨some 125, .ia 1 (.t 123) (.t 124), some (118, true), [8, 9, 3]⟩,
  ⟨some 126, .load 1 true (.t 125), some (118, true), [10, 3]⟩,
  ⟨some 127, .call (.fn 156) [.t 122, .t 126], some (118, true), [7, 11, 3, 3]⟩,
  ⟨some 128, .un .not (.t 127), some (118, true), [12, 3]⟩,
  ⟨some 129, .pick (.t 118) (.t 128) (.c (.bool false)), none, [3, 13]⟩] [112, 115, 116, 117, 118, 119, 120, 121, 122, 123, 124, 125, 126, 127, 128]
def R_slices_partitionOrdered_16 : AC := .ops false [⟨some 130, .mov (.t 11), none, []⟩,
  ⟨some 131, .bin .sub (.t 130) (.c (.int .i64 1)), none, []⟩,
  ⟨some 11, .mov (.t 131), none, []⟩] [129, 130, 131]
def L_slices_partitionOrdered_4 : AC := (.seq (.seq R_slices_partitionOrdered_15 (.cond (.t 129) .skip (.exit 8))) (.block 9 R_slices_partitionOrdered_16))
def R_slices_partitionOrdered_17 : AC := .ops false [⟨some 132, .mov (.t 10), none, []⟩,
  ⟨some 133, .mov (.t 11), none, []⟩,
  ⟨some 134, .bin .gtr (.t 132) (.t 133), none, []⟩] [129, 132, 133]
def R_slices_partitionOrdered_18 : AC := .ops true [⟨some 135, .mov (.t 0), none, []⟩,
  ⟨some 136, .mov (.t 10), none, []⟩,
  ⟨some 137, .mov (.t 0), none, []⟩,
  ⟨some 138, .mov (.t 11), none, []⟩,
  ⟨some 139, .mov (.t 0), none, []⟩,
  ⟨some 140, .mov (.t 11), none, []⟩,
  ⟨some 141, .ia 1 (.t 139) (.t 140), none, [4, 5]⟩,
  ⟨some 142, .load 1 true (.t 141), none, [6]⟩,
  ⟨some 143, .mov (.t 0), none, []⟩,
  ⟨some 144, .mov (.t 10), none, []⟩,
  ⟨some 145, .ia 1 (.t 143) (.t 144), none, [8, 9]⟩,
  ⟨some 146, .load 1 true (.t 145), none, [10]⟩,
  ⟨some 147, .ia 1 (.t 135) (.t 136), none, [0, 1, 0, 1, 4, 5, 6, 7, 11]⟩,
  ⟨none, .store 1 (.t 147) (.t 142), none, [12, 7, 0, 1, 4, 5, 6, 7, 11]⟩,
  ⟨some 148, .ia 1 (.t 137) (.t 138), none, [2, 3, 0, 1, 2, 3, 4, 5, 6, 7, 8, 9, 10, 11, 12, 13]⟩,
  ⟨none, .store 1 (.t 148) (.t 146), none, [14, 11, 13, 0, 1, 2, 3, 4, 5, 6, 7, 8, 9, 10, 11, 12, 13]⟩] [134, 135, 136, 137, 138, 139, 140, 141, 142, 143, 144, 145, 146, 147, 148]
def R_slices_partitionOrdered_19 : AC := .ops false [⟨some 149, .mov (.t 10), none, []⟩,
  ⟨some 150, .bin .add (.t 149) (.c (.int .i64 1)), none, []⟩,
  ⟨some 10, .mov (.t 150), none, []⟩] [149, 150]
def R_slices_partitionOrdered_20 : AC := .ops false [⟨some 151, .mov (.t 11), none, []⟩,
  ⟨some 152, .bin .sub (.t 151) (.c (.int .i64 1)), none, []⟩,
  ⟨some 11, .mov (.t 152), none, []⟩] [151, 152]
def L_slices_partitionOrdered_5 : AC := (.block 5 (.seq (.block 6 (.loop L_slices_partitionOrdered_3)) (.seq (.block 8 (.loop L_slices_partitionOrdered_4)) (.seq (.seq R_slices_partitionOrdered_17 (.cond (.t 134) (.exit 4) .skip)) (.seq R_slices_partitionOrdered_18 (.seq R_slices_partitionOrdered_19 R_slices_partitionOrdered_20))))))
def R_slices_partitionOrdered_21 : AC := .ops true [⟨some 153, .mov (.t 0), none, []⟩,
  ⟨some 154, .mov (.t 11), none, []⟩,
  ⟨some 155, .mov (.t 0), none, []⟩,
  ⟨some 156, .mov (.t 1), none, []⟩,
  ⟨some 157, .mov (.t 0), none, []⟩,
  ⟨some 158, .mov (.t 1), none, []⟩,
  ⟨some 159, .ia 1 (.t 157) (.t 158), none, [4, 5]⟩,
  ⟨some 160, .load 1 true (.t 159), none, [6]⟩,
  ⟨some 161, .mov (.t 0), none, []⟩,
  ⟨some 162, .mov (.t 11), none, []⟩,
  ⟨some 163, .ia 1 (.t 161) (.t 162), none, [8, 9]⟩,
  ⟨some 164, .load 1 true (.t 163), none, [10]⟩,
  ⟨some 165, .ia 1 (.t 153) (.t 154), none, [0, 1, 0, 1, 4, 5, 6, 7, 11]⟩,
  ⟨none, .store 1 (.t 165) (.t 160), none, [12, 7, 0, 1, 4, 5, 6, 7, 11]⟩,
  ⟨some 166, .ia 1 (.t 155) (.t 156), none, [2, 3, 0, 1, 2, 3, 4, 5, 6, 7, 8, 9, 10, 11, 12, 13]⟩,
  ⟨none, .store 1 (.t 166) (.t 164), none, [14, 11, 13, 0, 1, 2, 3, 4, 5, 6, 7, 8, 9, 10, 11, 12, 13]⟩] [0, 1, 10, 134, 153, 154, 155, 156, 157, 158, 159, 160, 161, 162, 163, 164, 165, 166]
def R_slices_partitionOrdered_22 : AC := .ops false [⟨some 167, .mov (.t 11), none, []⟩,
  ⟨some 8, .mov (.t 167), none, []⟩,
  ⟨some 9, .mov (.c (.bool false)), none, []⟩] [11, 167]
def F_slices_partitionOrdered : AFunc := { ntmps := 168, nargs := 4, kills := [[8, 9], [3, 12, 13, 14, 15, 16, 17, 18, 19, 20, 21, 22, 23, 24, 25], [2, 26, 27, 28, 29], [30, 31, 32, 33, 34, 35, 36, 37, 38, 39, 40, 41, 42], [43, 44, 45], [43, 46, 47, 48, 49, 50, 51, 52, 53, 54, 55, 56, 57, 58, 59], [60, 61, 62], [60, 63, 64], [0, 1, 10, 65, 66, 67, 68, 69, 70, 71, 72, 73, 74, 75, 76, 77, 78, 79], [11, 80], [65, 81, 82, 83, 84, 85, 86, 87, 88, 89, 90, 91, 92, 93, 94], [95, 96], [97, 98], [99, 100, 101, 102, 103, 104, 105, 106, 107, 108, 109, 110, 111], [112, 113, 114], [112, 115, 116, 117, 118, 119, 120, 121, 122, 123, 124, 125, 126, 127, 128], [129, 130, 131], [129, 132, 133], [134, 135, 136, 137, 138, 139, 140, 141, 142, 143, 144, 145, 146, 147, 148], [149, 150], [151, 152], [0, 1, 10, 134, 153, 154, 155, 156, 157, 158, 159, 160, 161, 162, 163, 164, 165, 166], [11, 167]], results := [.t 8, .t 9], body := (.seq R_slices_partitionOrdered_0 (.seq R_slices_partitionOrdered_1 (.seq R_slices_partitionOrdered_2 (.seq (.block 0 (.loop L_slices_partitionOrdered_1)) (.seq (.block 2 (.loop L_slices_partitionOrdered_2)) (.seq (.seq R_slices_partitionOrdered_7 (.cond (.t 65) (.seq R_slices_partitionOrdered_8 (.seq R_slices_partitionOrdered_9 .ret)) .skip)) (.seq R_slices_partitionOrdered_10 (.seq R_slices_partitionOrdered_11 (.seq R_slices_partitionOrdered_12 (.seq (.block 4 (.loop L_slices_partitionOrdered_5)) (.seq R_slices_partitionOrdered_21 (.seq R_slices_partitionOrdered_22 .ret)))))))))))) }
abbrev k_slices_partitionOrdered : Nat := 158
-- math/bits.Len32
def R_bits_Len32_0 : AC := .ops false [⟨some 2, .mov (.c (.int .i64 0)), none, []⟩] []
def R_bits_Len32_1 : AC := .ops false [⟨some 3, .mov (.t 0), none, []⟩,
  ⟨some 4, .bin .geq (.t 3) (.c (.int .u32 65536)), none, []⟩] [3]
def R_bits_Len32_2 : AC := .ops false [⟨some 5, .mov (.t 0), none, []⟩,
  ⟨some 6, .bin .shr (.t 5) (.c (.int .u64 16)), none, []⟩,
  ⟨some 0, .mov (.t 6), none, []⟩] [2, 4, 5, 6]
def R_bits_Len32_3 : AC := .ops false [⟨some 2, .mov (.c (.int .i64 16)), none, []⟩] []
def R_bits_Len32_4 : AC := .ops false [⟨some 7, .mov (.t 0), none, []⟩,
  ⟨some 8, .bin .geq (.t 7) (.c (.int .u32 256)), none, []⟩] [4, 7]
def R_bits_Len32_5 : AC := .ops false [⟨some 9, .mov (.t 0), none, []⟩,
  ⟨some 10, .bin .shr (.t 9) (.c (.int .u64 8)), none, []⟩,
  ⟨some 0, .mov (.t 10), none, []⟩] [8, 9, 10]
def R_bits_Len32_6 : AC := .ops false [⟨some 11, .mov (.t 2), none, []⟩,
  ⟨some 12, .bin .add (.t 11) (.c (.int .i64 8)), none, []⟩,
  ⟨some 2, .mov (.t 12), none, []⟩] [11, 12]
def R_bits_Len32_7 : AC := .ops false [⟨some 13, .mov (.t 2), none, []⟩,
  ⟨some 14, .mov (.t 0), none, []⟩,
  ⟨some 15, .conv .u8 (.t 14), none, []⟩,
  ⟨some 16, .chr (.c (.str [0, 1, 2, 2, 3, 3, 3, 3, 4, 4, 4, 4, 4, 4, 4, 4, 5, 5, 5, 5, 5, 5, 5, 5, 5, 5, 5, 5, 5, 5, 5, 5, 6, 6, 6, 6, 6, 6, 6, 6, 6, 6, 6, 6, 6, 6, 6, 6, 6, 6, 6, 6, 6, 6, 6, 6, 6, 6, 6, 6, 6, 6, 6, 6, 7, 7, 7, 7, 7, 7, 7, 7, 7, 7, 7, 7, 7, 7, 7, 7, 7, 7, 7, 7, 7, 7, 7, 7, 7, 7, 7, 7, 7, 7, 7, 7, 7, 7, 7, 7, 7, 7, 7, 7, 7, 7, 7, 7, 7, 7, 7, 7, 7, 7, 7, 7, 7, 7, 7, 7, 7, 7, 7, 7, 7, 7, 7, 7, 8, 8, 8, 8, 8, 8, 8, 8, 8, 8, 8, 8, 8, 8, 8, 8, 8, 8, 8, 8, 8, 8, 8, 8, 8, 8, 8, 8, 8, 8, 8, 8, 8, 8, 8, 8, 8, 8, 8, 8, 8, 8, 8, 8, 8, 8, 8, 8, 8, 8, 8, 8, 8, 8, 8, 8, 8, 8, 8, 8, 8, 8, 8, 8, 8, 8, 8, 8, 8, 8, 8, 8, 8, 8, 8, 8, 8, 8, 8, 8, 8, 8, 8, 8, 8, 8, 8, 8, 8, 8, 8, 8, 8, 8, 8, 8, 8, 8, 8, 8, 8, 8, 8, 8, 8, 8, 8, 8, 8, 8, 8, 8, 8, 8, 8, 8, 8, 8, 8, 8, 8, 8, 8, 8, 8, 8, 8, 8])) (.t 15), none, []⟩,
  ⟨some 17, .conv .i64 (.t 16), none, []⟩,
  ⟨some 18, .bin .add (.t 13) (.t 17), none, []⟩,
  ⟨some 2, .mov (.t 18), none, []⟩] [0, 8, 13, 14, 15, 16, 17, 18]
def F_bits_Len32 : AFunc := { ntmps := 19, nargs := 1, kills := [[], [3], [2, 4, 5, 6], [], [4, 7], [8, 9, 10], [11, 12], [0, 8, 13, 14, 15, 16, 17, 18]], results := [.t 2], body := (.seq R_bits_Len32_0 (.seq (.seq R_bits_Len32_1 (.cond (.t 4) (.seq R_bits_Len32_2 R_bits_Len32_3) .skip)) (.seq (.seq R_bits_Len32_4 (.cond (.t 8) (.seq R_bits_Len32_5 R_bits_Len32_6) .skip)) (.seq R_bits_Len32_7 .ret)))) }
abbrev k_bits_Len32 : Nat := 159
-- math/bits.Len64
def R_bits_Len64_0 : AC := .ops false [⟨some 2, .mov (.c (.int .i64 0)), none, []⟩] []
def R_bits_Len64_1 : AC := .ops false [⟨some 3, .mov (.t 0), none, []⟩,
  ⟨some 4, .bin .geq (.t 3) (.c (.int .u64 4294967296)), none, []⟩] [3]
def R_bits_Len64_2 : AC := .ops false [⟨some 5, .mov (.t 0), none, []⟩,
  ⟨some 6, .bin .shr (.t 5) (.c (.int .u64 32)), none, []⟩,
  ⟨some 0, .mov (.t 6), none, []⟩] [2, 4, 5, 6]
def R_bits_Len64_3 : AC := .ops false [⟨some 2, .mov (.c (.int .i64 32)), none, []⟩] []
def R_bits_Len64_4 : AC := .ops false [⟨some 7, .mov (.t 0), none, []⟩,
  ⟨some 8, .bin .geq (.t 7) (.c (.int .u64 65536)), none, []⟩] [4, 7]
def R_bits_Len64_5 : AC := .ops false [⟨some 9, .mov (.t 0), none, []⟩,
  ⟨some 10, .bin .shr (.t 9) (.c (.int .u64 16)), none, []⟩,
  ⟨some 0, .mov (.t 10), none, []⟩] [8, 9, 10]
def R_bits_Len64_6 : AC := .ops false [⟨some 11, .mov (.t 2), none, []⟩,
  ⟨some 12, .bin .add (.t 11) (.c (.int .i64 16)), none, []⟩,
  ⟨some 2, .mov (.t 12), none, []⟩] [11, 12]
def R_bits_Len64_7 : AC := .ops false [⟨some 13, .mov (.t 0), none, []⟩,
  ⟨some 14, .bin .geq (.t 13) (.c (.int .u64 256)), none, []⟩] [8, 13]
def R_bits_Len64_8 : AC := .ops false [⟨some 15, .mov (.t 0), none, []⟩,
  ⟨some 16, .bin .shr (.t 15) (.c (.int .u64 8)), none, []⟩,
  ⟨some 0, .mov (.t 16), none, []⟩] [14, 15, 16]
def R_bits_Len64_9 : AC := .ops false [⟨some 17, .mov (.t 2), none, []⟩,
  ⟨some 18, .bin .add (.t 17) (.c (.int .i64 8)), none, []⟩,
  ⟨some 2, .mov (.t 18), none, []⟩] [17, 18]
def R_bits_Len64_10 : AC := .ops false [⟨some 19, .mov (.t 2), none, []⟩,
  ⟨some 20, .mov (.t 0), none, []⟩,
  ⟨some 21, .conv .u8 (.t 20), none, []⟩,
  ⟨some 22, .chr (.c (.str [0, 1, 2, 2, 3, 3, 3, 3, 4, 4, 4, 4, 4, 4, 4, 4, 5, 5, 5, 5, 5, 5, 5, 5, 5, 5, 5, 5, 5, 5, 5, 5, 6, 6, 6, 6, 6, 6, 6, 6, 6, 6, 6, 6, 6, 6, 6, 6, 6, 6, 6, 6, 6, 6, 6, 6, 6, 6, 6, 6, 6, 6, 6, 6, 7, 7, 7, 7, 7, 7, 7, 7, 7, 7, 7, 7, 7, 7, 7, 7, 7, 7, 7, 7, 7, 7, 7, 7, 7, 7, 7, 7, 7, 7, 7, 7, 7, 7, 7, 7, 7, 7, 7, 7, 7, 7, 7, 7, 7, 7, 7, 7, 7, 7, 7, 7, 7, 7, 7, 7, 7, 7, 7, 7, 7, 7, 7, 7, 8, 8, 8, 8, 8, 8, 8, 8, 8, 8, 8, 8, 8, 8, 8, 8, 8, 8, 8, 8, 8, 8, 8, 8, 8, 8, 8, 8, 8, 8, 8, 8, 8, 8, 8, 8, 8, 8, 8, 8, 8, 8, 8, 8, 8, 8, 8, 8, 8, 8, 8, 8, 8, 8, 8, 8, 8, 8, 8, 8, 8, 8, 8, 8, 8, 8, 8, 8, 8, 8, 8, 8, 8, 8, 8, 8, 8, 8, 8, 8, 8, 8, 8, 8, 8, 8, 8, 8, 8, 8, 8, 8, 8, 8, 8, 8, 8, 8, 8, 8, 8, 8, 8, 8, 8, 8, 8, 8, 8, 8, 8, 8, 8, 8, 8, 8, 8, 8, 8, 8, 8, 8, 8, 8, 8, 8, 8, 8])) (.t 21), none, []⟩,
  ⟨some 23, .conv .i64 (.t 22), none, []⟩,
  ⟨some 24, .bin .add (.t 19) (.t 23), none, []⟩,
  ⟨some 2, .mov (.t 24), none, []⟩] [0, 14, 19, 20, 21, 22, 23, 24]
def F_bits_Len64 : AFunc := { ntmps := 25, nargs := 1, kills := [[], [3], [2, 4, 5, 6], [], [4, 7], [8, 9, 10], [11, 12], [8, 13], [14, 15, 16], [17, 18], [0, 14, 19, 20, 21, 22, 23, 24]], results := [.t 2], body := (.seq R_bits_Len64_0 (.seq (.seq R_bits_Len64_1 (.cond (.t 4) (.seq R_bits_Len64_2 R_bits_Len64_3) .skip)) (.seq (.seq R_bits_Len64_4 (.cond (.t 8) (.seq R_bits_Len64_5 R_bits_Len64_6) .skip)) (.seq (.seq R_bits_Len64_7 (.cond (.t 14) (.seq R_bits_Len64_8 R_bits_Len64_9) .skip)) (.seq R_bits_Len64_10 .ret))))) }
abbrev k_bits_Len64 : Nat := 160
-- suffrage/suffrageref03.Same
def R_suffrageref03_Same_0 : AC := .ops false [⟨some 4, .mov (.c (.bool false)), none, []⟩] [4]
def R_suffrageref03_Same_1 : AC := .ops false [⟨some 6, .mov (.t 0), none, []⟩,
  ⟨some 7, .len (.t 6), none, []⟩,
  ⟨some 8, .mov (.t 1), none, []⟩,
  ⟨some 9, .len (.t 8), none, []⟩,
  ⟨some 10, .bin .neq (.t 7) (.t 9), none, []⟩] [6, 7, 8, 9]
def R_suffrageref03_Same_2 : AC := .ops false [⟨some 4, .mov (.c (.bool false)), none, []⟩] [0, 1, 10]
def R_suffrageref03_Same_3 : AC := .ops false [⟨some 5, .mov (.c (.int .i64 0)), none, []⟩] [10]
def R_suffrageref03_Same_4 : AC := .ops false [⟨some 11, .mov (.t 5), none, []⟩,
  ⟨some 12, .mov (.t 0), none, []⟩,
  ⟨some 13, .len (.t 12), none, []⟩,
  ⟨some 14, .bin .lss (.t 11) (.t 13), none, []⟩] [11, 12, 13]
def R_suffrageref03_Same_6 : AC := .ops true [⟨some 17, .mov (.t 0), none, []⟩,
  ⟨some 18, .mov (.t 5), none, []⟩,
  ⟨some 19, .ia 1 (.t 17) (.t 18), none, [0, 1]⟩,
  ⟨some 20, .load 1 true (.t 19), none, [2]⟩,
  ⟨some 21, .mov (.t 1), none, []⟩,
  ⟨some 22, .mov (.t 5), none, []⟩,
  ⟨some 23, .ia 1 (.t 21) (.t 22), none, [4, 5]⟩,
  ⟨some 24, .load 1 true (.t 23), none, [6]⟩,
  ⟨some 25, .bin .neq (.t 20) (.t 24), none, [3, 7]⟩] [14, 17, 18, 19, 20, 21, 22, 23, 24]
def R_suffrageref03_Same_7 : AC := .ops false [⟨some 4, .mov (.c (.bool false)), none, []⟩] [0, 1, 5, 25]
def R_suffrageref03_Same_5 : AC := .ops false [⟨some 15, .mov (.t 5), none, []⟩,
  ⟨some 16, .bin .add (.t 15) (.c (.int .i64 1)), none, []⟩,
  ⟨some 5, .mov (.t 16), none, []⟩] [15, 16, 25]
def L_suffrageref03_Same_1 : AC := (.seq (.seq R_suffrageref03_Same_4 (.cond (.t 14) .skip (.exit 0))) (.seq (.block 1 (.seq R_suffrageref03_Same_6 (.cond (.t 25) (.seq R_suffrageref03_Same_7 .ret) .skip))) R_suffrageref03_Same_5))
def R_suffrageref03_Same_8 : AC := .ops false [⟨some 4, .mov (.c (.bool true)), none, []⟩] [0, 1, 5, 14]
def F_suffrageref03_Same : AFunc := { ntmps := 26, nargs := 2, kills := [[4], [6, 7, 8, 9], [0, 1, 10], [10], [11, 12, 13], [15, 16, 25], [14, 17, 18, 19, 20, 21, 22, 23, 24], [0, 1, 5, 25], [0, 1, 5, 14]], results := [.t 4], body := (.seq R_suffrageref03_Same_0 (.seq (.seq R_suffrageref03_Same_1 (.cond (.t 10) (.seq R_suffrageref03_Same_2 .ret) .skip)) (.seq (.seq R_suffrageref03_Same_3 (.block 0 (.loop L_suffrageref03_Same_1))) (.seq R_suffrageref03_Same_8 .ret)))) }
abbrev k_suffrageref03_Same : Nat := 161
-- suffrage/nat.Gcd
def R_nat_Gcd_0 : AC := .ops false [⟨some 4, .mov (.c (.lst 0 [] (some 0))), none, []⟩,
  ⟨some 5, .mov (.c (.int .i64 0)), none, []⟩] [4, 5]
def R_nat_Gcd_1 : AC := .ops false [⟨some 9, .mov (.t 0), none, []⟩,
  ⟨some 10, .mov (.t 1), none, []⟩,
  ⟨some 11, .call (.fn 245) [.t 9, .t 10], none, []⟩,
  ⟨some 6, .mov (.t 11), none, []⟩] [9, 10, 11]
def R_nat_Gcd_2 : AC := .ops false [⟨some 12, .mov (.t 6), none, []⟩,
  ⟨some 13, .bin .neq (.t 12) (.c (.int .i64 0)), none, []⟩] [12]
def R_nat_Gcd_3 : AC := .ops false [⟨some 14, .mov (.t 6), none, []⟩,
  ⟨some 4, .mov (.c (.lst 0 [] (some 0))), none, []⟩,
  ⟨some 5, .mov (.t 14), none, []⟩] [0, 1, 6, 13, 14]
def R_nat_Gcd_4 : AC := .ops false [⟨some 15, .mov (.t 0), none, []⟩,
  ⟨some 16, .call (.fn 149) [.t 15], none, []⟩,
  ⟨some 0, .mov (.t 16), none, []⟩] [6, 13, 15, 16]
def R_nat_Gcd_5 : AC := .ops false [⟨some 17, .mov (.t 1), none, []⟩,
  ⟨some 18, .len (.t 17), none, []⟩,
  ⟨some 19, .bin .gtr (.t 18) (.c (.int .i64 0)), none, []⟩] [17, 18]
def R_nat_Gcd_6 : AC := .ops false [⟨some 21, .mov (.t 0), none, []⟩,
  ⟨some 22, .mov (.t 1), none, []⟩,
  ⟨some 23, .call (.fn 246) [.t 21, .t 22], none, []⟩,
  ⟨some 20, .mov (.t 23), none, []⟩,
  ⟨some 24, .ext (.t 20) 0, none, []⟩,
  ⟨some 25, .ext (.t 20) 1, none, []⟩,
  ⟨some 7, .mov (.t 24), none, []⟩,
  ⟨some 8, .mov (.t 25), none, []⟩] [0, 7, 19, 20, 21, 22, 23, 24, 25]
def R_nat_Gcd_7 : AC := .ops false [⟨some 26, .mov (.t 1), none, []⟩,
  ⟨some 27, .mov (.t 8), none, []⟩,
  ⟨some 0, .mov (.t 26), none, []⟩,
  ⟨some 1, .mov (.t 27), none, []⟩] [8, 26, 27]
def L_nat_Gcd_1 : AC := (.seq (.seq R_nat_Gcd_5 (.cond (.t 19) .skip (.exit 0))) (.block 1 (.seq R_nat_Gcd_6 R_nat_Gcd_7)))
def R_nat_Gcd_8 : AC := .ops false [⟨some 28, .mov (.t 0), none, []⟩,
  ⟨some 29, .call (.fn 149) [.t 28], none, []⟩,
  ⟨some 4, .mov (.t 29), none, []⟩,
  ⟨some 5, .mov (.c (.int .i64 0)), none, []⟩] [0, 1, 19, 28, 29]
def F_nat_Gcd : AFunc := { ntmps := 30, nargs := 2, kills := [[4, 5], [9, 10, 11], [12], [0, 1, 6, 13, 14], [6, 13, 15, 16], [17, 18], [0, 7, 19, 20, 21, 22, 23, 24, 25], [8, 26, 27], [0, 1, 19, 28, 29]], results := [.t 4, .t 5], body := (.seq R_nat_Gcd_0 (.seq (.seq R_nat_Gcd_1 (.seq R_nat_Gcd_2 (.cond (.t 13) (.seq R_nat_Gcd_3 .ret) .skip))) (.seq (.seq R_nat_Gcd_4 (.block 0 (.loop L_nat_Gcd_1))) (.seq R_nat_Gcd_8 .ret)))) }
abbrev k_nat_Gcd : Nat := 162
-- suffrage/nat.Div
def R_nat_Div_0 : AC := .ops false [⟨some 4, .mov (.c (.lst 0 [] (some 0))), none, []⟩,
  ⟨some 5, .mov (.c (.lst 0 [] (some 0))), none, []⟩,
  ⟨some 6, .mov (.c (.int .i64 0)), none, []⟩] [4, 5, 6]
def R_nat_Div_1 : AC := .ops false [⟨some 7, .mov (.t 0), none, []⟩,
  ⟨some 8, .mov (.t 1), none, []⟩,
  ⟨some 9, .call (.fn 245) [.t 7, .t 8], none, []⟩,
  ⟨some 6, .mov (.t 9), none, []⟩] [7, 8, 9]
def R_nat_Div_2 : AC := .ops false [⟨some 10, .mov (.t 6), none, []⟩,
  ⟨some 11, .bin .neq (.t 10) (.c (.int .i64 0)), none, []⟩] [10]
def R_nat_Div_3 : AC := .ops false [⟨some 12, .mov (.t 6), none, []⟩,
  ⟨some 4, .mov (.c (.lst 0 [] (some 0))), none, []⟩,
  ⟨some 5, .mov (.c (.lst 0 [] (some 0))), none, []⟩,
  ⟨some 6, .mov (.t 12), none, []⟩] [0, 1, 11, 12]
def R_nat_Div_4 : AC := .ops false [⟨some 13, .mov (.t 1), none, []⟩,
  ⟨some 14, .len (.t 13), none, []⟩,
  ⟨some 15, .bin .eql (.t 14) (.c (.int .i64 0)), none, []⟩] [6, 11, 13, 14]
def R_nat_Div_5 : AC := .ops false [⟨some 4, .mov (.c (.lst 0 [] (some 0))), none, []⟩,
  ⟨some 5, .mov (.c (.lst 0 [] (some 0))), none, []⟩,
  ⟨some 6, .mov (.c (.int .i64 40)), none, []⟩] [0, 1, 15]
def R_nat_Div_6 : AC := .ops false [⟨some 17, .mov (.t 0), none, []⟩,
  ⟨some 18, .mov (.t 1), none, []⟩,
  ⟨some 19, .call (.fn 246) [.t 17, .t 18], none, []⟩,
  ⟨some 16, .mov (.t 19), none, []⟩,
  ⟨some 20, .ext (.t 16) 0, none, []⟩,
  ⟨some 21, .ext (.t 16) 1, none, []⟩,
  ⟨some 4, .mov (.t 20), none, []⟩,
  ⟨some 5, .mov (.t 21), none, []⟩] [0, 1, 15, 16, 17, 18, 19, 20, 21]
def R_nat_Div_7 : AC := .ops false [⟨some 22, .mov (.t 4), none, []⟩,
  ⟨some 23, .mov (.t 5), none, []⟩,
  ⟨some 4, .mov (.t 22), none, []⟩,
  ⟨some 5, .mov (.t 23), none, []⟩,
  ⟨some 6, .mov (.c (.int .i64 0)), none, []⟩] [22, 23]
def F_nat_Div : AFunc := { ntmps := 24, nargs := 2, kills := [[4, 5, 6], [7, 8, 9], [10], [0, 1, 11, 12], [6, 11, 13, 14], [0, 1, 15], [0, 1, 15, 16, 17, 18, 19, 20, 21], [22, 23]], results := [.t 4, .t 5, .t 6], body := (.seq R_nat_Div_0 (.seq (.seq R_nat_Div_1 (.seq R_nat_Div_2 (.cond (.t 11) (.seq R_nat_Div_3 .ret) .skip))) (.seq (.seq R_nat_Div_4 (.cond (.t 15) (.seq R_nat_Div_5 .ret) .skip)) (.seq R_nat_Div_6 (.seq R_nat_Div_7 .ret))))) }
abbrev k_nat_Div : Nat := 163
-- suffrage/nat.trim
def R_nat_trim_0 : AC := .ops false [⟨some 2, .mov (.c (.lst 0 [] (some 0))), none, []⟩] [2]
def R_nat_trim_1 : AC := .ops false [⟨some 4, .mov (.t 0), none, []⟩,
  ⟨some 5, .len (.t 4), none, []⟩,
  ⟨some 3, .mov (.t 5), none, []⟩] [4, 5]
def R_nat_trim_2 : AC := .ops false [⟨some 6, .mov (.t 3), none, []⟩,
  ⟨some 7, .bin .gtr (.t 6) (.c (.int .i64 0)), none, []⟩,
  ⟨some 8, .mov (.t 7), none, []⟩,
  ⟨some 9, .mov (.t 0), some (8, true), []⟩,
  ⟨some 10, .mov (.t 3), some (8, true), []⟩,
  ⟨some 11, .bin .sub (.t 10) (.c (.int .i64 1)), some (8, true), []⟩,
  ⟨some 12, .ia 1 (.t 9) (.t 11), some (8, true), []⟩,
  ⟨some 13, .load 1 true (.t 12), some (8, true), []⟩,
  ⟨some 14, .bin .eql (.t 13) (.c (.int .u32 0)), some (8, true), []⟩,
  ⟨some 15, .pick (.t 8) (.t 14) (.c (.bool false)), none, []⟩] [6, 7, 8, 9, 10, 11, 12, 13, 14]
def R_nat_trim_3 : AC := .ops false [⟨some 16, .mov (.t 3), none, []⟩,
  ⟨some 17, .bin .sub (.t 16) (.c (.int .i64 1)), none, []⟩,
  ⟨some 3, .mov (.t 17), none, []⟩] [15, 16, 17]
def L_nat_trim_1 : AC := (.seq (.seq R_nat_trim_2 (.cond (.t 15) .skip (.exit 0))) (.block 1 R_nat_trim_3))
def R_nat_trim_4 : AC := .ops false [⟨some 18, .mov (.t 0), none, []⟩,
  ⟨some 19, .mov (.t 3), none, []⟩,
  ⟨some 20, .mov (.t 3), none, []⟩,
  ⟨some 21, .slice 1 (.t 18) none (some (.t 19)) (some (.t 20)), none, []⟩,
  ⟨some 2, .mov (.t 21), none, []⟩] [0, 3, 15, 18, 19, 20, 21]
def F_nat_trim : AFunc := { ntmps := 22, nargs := 1, kills := [[2], [4, 5], [6, 7, 8, 9, 10, 11, 12, 13, 14], [15, 16, 17], [0, 3, 15, 18, 19, 20, 21]], results := [.t 2], body := (.seq R_nat_trim_0 (.seq R_nat_trim_1 (.seq (.block 0 (.loop L_nat_trim_1)) (.seq R_nat_trim_4 .ret)))) }
abbrev k_nat_trim : Nat := 164
-- suffrage/ratio.Cmp
def R_ratio_Cmp_0 : AC := .ops false [⟨some 2, .box (.t 0), none, []⟩,
  ⟨some 3, .box (.t 1), none, []⟩,
  ⟨some 4, .mov (.c (.int .i64 0)), none, []⟩,
  ⟨some 5, .mov (.c (.int .i64 0)), none, []⟩] [0, 1, 4, 5]
def R_ratio_Cmp_1 : AC := .ops false [⟨some 14, .load 3 false (.t 2), none, []⟩,
  ⟨some 15, .call (.fn 247) [.t 14], none, []⟩,
  ⟨some 16, .bin .neq (.t 15) (.c (.int .i64 0)), none, []⟩,
  ⟨some 17, .mov (.t 16), none, []⟩,
  ⟨some 18, .load 3 false (.t 3), some (17, false), []⟩,
  ⟨some 19, .call (.fn 247) [.t 18], some (17, false), []⟩,
  ⟨some 20, .bin .neq (.t 19) (.c (.int .i64 0)), some (17, false), []⟩,
  ⟨some 21, .pick (.t 17) (.c (.bool true)) (.t 20), none, []⟩] [14, 15, 16, 17, 18, 19, 20]
def R_ratio_Cmp_2 : AC := .ops false [⟨some 4, .mov (.c (.int .i64 0)), none, []⟩,
  ⟨some 5, .mov (.c (.int .i64 8)), none, []⟩] [2, 3, 21]
def R_ratio_Cmp_3 : AC := .ops true [⟨some 22, .load 3 false (.t 2), none, []⟩,
  ⟨some 23, .load 3 false (.t 3), none, []⟩,
  ⟨some 24, .build [.bool false, .lst 0 [] (some 0), .lst 0 [] (some 0), .bool false, .lst 0 [] (some 0), .lst 0 [] (some 0)] [(0, 3, .t 22), (3, 3, .t 23)], none, [0, 1]⟩,
  ⟨some 25, .load 3 false (.t 2), none, []⟩,
  ⟨some 26, .call (.fn 248) [.t 25], none, [3]⟩,
  ⟨some 27, .load 3 false (.t 3), none, []⟩,
  ⟨some 28, .call (.fn 248) [.t 27], none, [5, 4]⟩,
  ⟨some 6, .alloc [.bool false, .lst 0 [] (some 0), .lst 0 [] (some 0), .bool false, .lst 0 [] (some 0), .lst 0 [] (some 0)], none, []⟩,
  ⟨none, .store 6 (.t 6) (.t 24), none, [7, 2, 6, 0, 1, 2, 7]⟩,
  ⟨some 7, .mov (.t 26), none, [4, 8, 0, 1, 2, 3, 4, 7, 8]⟩,
  ⟨some 8, .mov (.t 28), none, [6, 9, 0, 1, 2, 3, 4, 5, 6, 7, 8, 9]⟩] [2, 3, 21, 22, 23, 24, 25, 26, 27, 28]
def R_ratio_Cmp_4 : AC := .ops false [⟨some 29, .mov (.t 7), none, []⟩,
  ⟨some 30, .mov (.t 8), none, []⟩,
  ⟨some 31, .bin .neq (.t 29) (.t 30), none, []⟩,
  ⟨some 32, .mov (.t 31), none, []⟩,
  ⟨some 33, .mov (.t 7), some (32, false), []⟩,
  ⟨some 34, .bin .eql (.t 33) (.c (.int .i64 0)), some (32, false), []⟩,
  ⟨some 35, .pick (.t 32) (.c (.bool true)) (.t 34), none, []⟩] [29, 30, 31, 32, 33, 34]
def R_ratio_Cmp_5 : AC := .ops false [⟨some 36, .mov (.t 7), none, []⟩,
  ⟨some 37, .mov (.t 8), none, []⟩,
  ⟨some 38, .bin .sub (.t 36) (.t 37), none, []⟩,
  ⟨some 39, .min [.c (.int .i64 1), .t 38], none, []⟩,
  ⟨some 40, .max [.c (.int .i64 (-1)), .t 39], none, []⟩,
  ⟨some 4, .mov (.t 40), none, []⟩,
  ⟨some 5, .mov (.c (.int .i64 0)), none, []⟩] [6, 7, 8, 35, 36, 37, 38, 39, 40]
def R_ratio_Cmp_6 : AC := .ops false [⟨some 42, .load 6 false (.t 6), none, []⟩,
  ⟨some 43, .call (.fn 249) [.t 42], none, []⟩,
  ⟨some 41, .mov (.t 43), none, []⟩,
  ⟨some 44, .ext (.t 41) 0, none, []⟩,
  ⟨some 45, .ext (.t 41) 1, none, []⟩,
  ⟨some 46, .ext (.t 41) 2, none, []⟩,
  ⟨some 9, .mov (.t 44), none, []⟩,
  ⟨some 10, .mov (.t 45), none, []⟩,
  ⟨some 11, .mov (.t 46), none, []⟩] [6, 8, 35, 41, 42, 43, 44, 45, 46]
def R_ratio_Cmp_7 : AC := .ops false [⟨some 47, .mov (.t 11), none, []⟩,
  ⟨some 48, .bin .neq (.t 47) (.c (.int .i64 0)), none, []⟩] [47]
def R_ratio_Cmp_8 : AC := .ops false [⟨some 49, .mov (.t 11), none, []⟩,
  ⟨some 4, .mov (.c (.int .i64 0)), none, []⟩,
  ⟨some 5, .mov (.t 49), none, []⟩] [7, 9, 10, 11, 48, 49]
def R_ratio_Cmp_9 : AC := .ops false [⟨some 51, .mov (.t 9), none, []⟩,
  ⟨some 52, .mov (.t 10), none, []⟩,
  ⟨some 53, .call (.fn 250) [.t 51, .t 52], none, []⟩,
  ⟨some 50, .mov (.t 53), none, []⟩,
  ⟨some 54, .ext (.t 50) 0, none, []⟩,
  ⟨some 55, .ext (.t 50) 1, none, []⟩,
  ⟨some 12, .mov (.t 54), none, []⟩,
  ⟨some 13, .mov (.t 55), none, []⟩] [9, 10, 11, 13, 48, 50, 51, 52, 53, 54, 55]
def R_ratio_Cmp_10 : AC := .ops false [⟨some 56, .mov (.t 7), none, []⟩,
  ⟨some 57, .mov (.t 12), none, []⟩,
  ⟨some 58, .bin .mul (.t 56) (.t 57), none, []⟩,
  ⟨some 4, .mov (.t 58), none, []⟩,
  ⟨some 5, .mov (.c (.int .i64 0)), none, []⟩] [7, 12, 56, 57, 58]
def F_ratio_Cmp : AFunc := { ntmps := 59, nargs := 2, kills := [[0, 1, 4, 5], [14, 15, 16, 17, 18, 19, 20], [2, 3, 21], [2, 3, 21, 22, 23, 24, 25, 26, 27, 28], [29, 30, 31, 32, 33, 34], [6, 7, 8, 35, 36, 37, 38, 39, 40], [6, 8, 35, 41, 42, 43, 44, 45, 46], [47], [7, 9, 10, 11, 48, 49], [9, 10, 11, 13, 48, 50, 51, 52, 53, 54, 55], [7, 12, 56, 57, 58]], results := [.t 4, .t 5], body := (.seq R_ratio_Cmp_0 (.seq (.seq R_ratio_Cmp_1 (.cond (.t 21) (.seq R_ratio_Cmp_2 .ret) .skip)) (.seq R_ratio_Cmp_3 (.seq (.seq R_ratio_Cmp_4 (.cond (.t 35) (.seq R_ratio_Cmp_5 .ret) .skip)) (.seq R_ratio_Cmp_6 (.seq (.seq R_ratio_Cmp_7 (.cond (.t 48) (.seq R_ratio_Cmp_8 .ret) .skip)) (.seq R_ratio_Cmp_9 (.seq R_ratio_Cmp_10 .ret)))))))) }
abbrev k_ratio_Cmp : Nat := 166
-- slices.IndexFunc[[]string,string]
def R_slices_IndexFunc_2_0 : AC := .ops false [⟨some 4, .mov (.c (.int .i64 0)), none, []⟩] [4]
def R_slices_IndexFunc_2_1 : AC := .ops false [⟨some 6, .mov (.t 0), none, []⟩,
  ⟨some 7, .len (.t 6), none, []⟩,
  ⟨some 8, .mov (.c (.int .i64 0)), none, []⟩] [6]
def R_slices_IndexFunc_2_2 : AC := .ops false [⟨some 9, .bin .lss (.t 8) (.t 7), none, []⟩] []
def R_slices_IndexFunc_2_3 : AC := .ops false [⟨some 10, .mov (.t 8), none, []⟩,
  ⟨some 5, .mov (.t 10), none, []⟩] [9, 10]
def R_slices_IndexFunc_2_4 : AC := .ops false [⟨some 11, .mov (.t 1), none, []⟩,
  ⟨some 12, .mov (.t 0), none, []⟩,
  ⟨some 13, .mov (.t 5), none, []⟩,
  ⟨some 14, .ia 1 (.t 12) (.t 13), none, []⟩,
  ⟨some 15, .load 1 true (.t 14), none, []⟩,
  ⟨some 16, .call (.dyn (.t 11)) [.t 15], none, []⟩] [11, 12, 13, 14, 15]
def R_slices_IndexFunc_2_5 : AC := .ops false [⟨some 17, .mov (.t 5), none, []⟩,
  ⟨some 4, .mov (.t 17), none, []⟩] [0, 1, 5, 7, 8, 16, 17]
def R_slices_IndexFunc_2_6 : AC := .ops false [⟨some 18, .bin .add (.t 8) (.c (.int .i64 1)), none, []⟩,
  ⟨some 8, .mov (.t 18), none, []⟩] [5, 16, 18]
def L_slices_IndexFunc_2_1 : AC := (.seq R_slices_IndexFunc_2_2 (.seq (.cond (.t 9) .skip (.exit 0)) (.seq (.block 1 (.seq R_slices_IndexFunc_2_3 (.seq R_slices_IndexFunc_2_4 (.cond (.t 16) (.seq R_slices_IndexFunc_2_5 .ret) .skip)))) R_slices_IndexFunc_2_6)))
def R_slices_IndexFunc_2_7 : AC := .ops false [⟨some 4, .mov (.c (.int .i64 (-1))), none, []⟩] [0, 1, 7, 8, 9]
def F_slices_IndexFunc_2 : AFunc := { ntmps := 19, nargs := 2, kills := [[4], [6], [], [9, 10], [11, 12, 13, 14, 15], [0, 1, 5, 7, 8, 16, 17], [5, 16, 18], [0, 1, 7, 8, 9]], results := [.t 4], body := (.seq R_slices_IndexFunc_2_0 (.seq (.seq R_slices_IndexFunc_2_1 (.block 0 (.loop L_slices_IndexFunc_2_1))) (.seq R_slices_IndexFunc_2_7 .ret))) }
abbrev k_slices_IndexFunc_2 : Nat := 178
-- slices.IndexFunc[[]byte,byte]
def R_slices_IndexFunc_3_0 : AC := .ops false [⟨some 4, .mov (.c (.int .i64 0)), none, []⟩] [4]
def R_slices_IndexFunc_3_1 : AC := .ops false [⟨some 6, .mov (.t 0), none, []⟩,
  ⟨some 7, .len (.t 6), none, []⟩,
  ⟨some 8, .mov (.c (.int .i64 0)), none, []⟩] [6]
def R_slices_IndexFunc_3_2 : AC := .ops false [⟨some 9, .bin .lss (.t 8) (.t 7), none, []⟩] []
def R_slices_IndexFunc_3_3 : AC := .ops false [⟨some 10, .mov (.t 8), none, []⟩,
  ⟨some 5, .mov (.t 10), none, []⟩] [9, 10]
def R_slices_IndexFunc_3_4 : AC := .ops false [⟨some 11, .mov (.t 1), none, []⟩,
  ⟨some 12, .mov (.t 0), none, []⟩,
  ⟨some 13, .mov (.t 5), none, []⟩,
  ⟨some 14, .ia 1 (.t 12) (.t 13), none, []⟩,
  ⟨some 15, .load 1 true (.t 14), none, []⟩,
  ⟨some 16, .call (.dyn (.t 11)) [.t 15], none, []⟩] [11, 12, 13, 14, 15]
def R_slices_IndexFunc_3_5 : AC := .ops false [⟨some 17, .mov (.t 5), none, []⟩,
  ⟨some 4, .mov (.t 17), none, []⟩] [0, 1, 5, 7, 8, 16, 17]
def R_slices_IndexFunc_3_6 : AC := .ops false [⟨some 18, .bin .add (.t 8) (.c (.int .i64 1)), none, []⟩,
  ⟨some 8, .mov (.t 18), none, []⟩] [5, 16, 18]
def L_slices_IndexFunc_3_1 : AC := (.seq R_slices_IndexFunc_3_2 (.seq (.cond (.t 9) .skip (.exit 0)) (.seq (.block 1 (.seq R_slices_IndexFunc_3_3 (.seq R_slices_IndexFunc_3_4 (.cond (.t 16) (.seq R_slices_IndexFunc_3_5 .ret) .skip)))) R_slices_IndexFunc_3_6)))
def R_slices_IndexFunc_3_7 : AC := .ops false [⟨some 4, .mov (.c (.int .i64 (-1))), none, []⟩] [0, 1, 7, 8, 9]
def F_slices_IndexFunc_3 : AFunc := { ntmps := 19, nargs := 2, kills := [[4], [6], [], [9, 10], [11, 12, 13, 14, 15], [0, 1, 5, 7, 8, 16, 17], [5, 16, 18], [0, 1, 7, 8, 9]], results := [.t 4], body := (.seq R_slices_IndexFunc_3_0 (.seq (.seq R_slices_IndexFunc_3_1 (.block 0 (.loop L_slices_IndexFunc_3_1))) (.seq R_slices_IndexFunc_3_7 .ret))) }
abbrev k_slices_IndexFunc_3 : Nat := 179
-- slices.Index[[]string,string]
def R_slices_Index_0 : AC := .ops false [⟨some 4, .mov (.c (.int .i64 0)), none, []⟩] [4]
def R_slices_Index_1 : AC := .ops false [⟨some 6, .mov (.t 0), none, []⟩,
  ⟨some 7, .len (.t 6), none, []⟩,
  ⟨some 8, .mov (.c (.int .i64 0)), none, []⟩] [6]
def R_slices_Index_2 : AC := .ops false [⟨some 9, .bin .lss (.t 8) (.t 7), none, []⟩] []
def R_slices_Index_3 : AC := .ops false [⟨some 10, .mov (.t 8), none, []⟩,
  ⟨some 5, .mov (.t 10), none, []⟩] [9, 10]
def R_slices_Index_4 : AC := .ops false [⟨some 11, .mov (.t 1), none, []⟩,
  ⟨some 12, .mov (.t 0), none, []⟩,
  ⟨some 13, .mov (.t 5), none, []⟩,
  ⟨some 14, .ia 1 (.t 12) (.t 13), none, []⟩,
  ⟨some 15, .load 1 true (.t 14), none, []⟩,
  ⟨some 16, .bin .eql (.t 11) (.t 15), none, []⟩] [11, 12, 13, 14, 15]
def R_slices_Index_5 : AC := .ops false [⟨some 17, .mov (.t 5), none, []⟩,
  ⟨some 4, .mov (.t 17), none, []⟩] [0, 1, 5, 7, 8, 16, 17]
def R_slices_Index_6 : AC := .ops false [⟨some 18, .bin .add (.t 8) (.c (.int .i64 1)), none, []⟩,
  ⟨some 8, .mov (.t 18), none, []⟩] [5, 16, 18]
def L_slices_Index_1 : AC := (.seq R_slices_Index_2 (.seq (.cond (.t 9) .skip (.exit 0)) (.seq (.block 1 (.seq R_slices_Index_3 (.seq R_slices_Index_4 (.cond (.t 16) (.seq R_slices_Index_5 .ret) .skip)))) R_slices_Index_6)))
def R_slices_Index_7 : AC := .ops false [⟨some 4, .mov (.c (.int .i64 (-1))), none, []⟩] [0, 1, 7, 8, 9]
def F_slices_Index : AFunc := { ntmps := 19, nargs := 2, kills := [[4], [6], [], [9, 10], [11, 12, 13, 14, 15], [0, 1, 5, 7, 8, 16, 17], [5, 16, 18], [0, 1, 7, 8, 9]], results := [.t 4], body := (.seq R_slices_Index_0 (.seq (.seq R_slices_Index_1 (.block 0 (.loop L_slices_Index_1))) (.seq R_slices_Index_7 .ret))) }
abbrev k_slices_Index : Nat := 180
-- cmp.isNaN[int]
def R_cmp_isNaN_0 : AC := .ops false [⟨some 2, .mov (.c (.bool false)), none, []⟩] [2]
def R_cmp_isNaN_1 : AC := .ops false [⟨some 3, .mov (.t 0), none, []⟩,
  ⟨some 4, .mov (.t 0), none, []⟩,
  ⟨some 5, .bin .neq (.t 3) (.t 4), none, []⟩,
  ⟨some 2, .mov (.t 5), none, []⟩] [0, 3, 4, 5]
def F_cmp_isNaN : AFunc := { ntmps := 6, nargs := 1, kills := [[2], [0, 3, 4, 5]], results := [.t 2], body := (.seq R_cmp_isNaN_0 (.seq R_cmp_isNaN_1 .ret)) }
abbrev k_cmp_isNaN : Nat := 181
-- slices.IsSorted[[]int,int]
def R_slices_IsSorted_0 : AC := .ops false [⟨some 2, .mov (.c (.bool false)), none, []⟩] [2]
def R_slices_IsSorted_1 : AC := .ops false [⟨some 4, .mov (.t 0), none, []⟩,
  ⟨some 5, .len (.t 4), none, []⟩,
  ⟨some 6, .bin .sub (.t 5) (.c (.int .i64 1)), none, []⟩,
  ⟨some 3, .mov (.t 6), none, []⟩] [4, 5, 6]
def R_slices_IsSorted_2 : AC := .ops false [⟨some 7, .mov (.t 3), none, []⟩,
  ⟨some 8, .bin .gtr (.t 7) (.c (.int .i64 0)), none, []⟩] [7]
def R_slices_IsSorted_4 : AC := .ops true [⟨some 11, .mov (.t 0), none, []⟩,
  ⟨some 12, .mov (.t 3), none, []⟩,
  ⟨some 13, .ia 1 (.t 11) (.t 12), none, [0, 1]⟩,
  ⟨some 14, .load 1 true (.t 13), none, [2]⟩,
  ⟨some 15, .mov (.t 0), none, []⟩,
  ⟨some 16, .mov (.t 3), none, []⟩,
  ⟨some 17, .bin .sub (.t 16) (.c (.int .i64 1)), none, [5]⟩,
  ⟨some 18, .ia 1 (.t 15) (.t 17), none, [4, 6]⟩,
  ⟨some 19, .load 1 true (.t 18), none, [7]⟩,
  ⟨some 20, .call (.fn 156) [.t 14, .t 19], none, [3, 8]⟩] [8, 11, 12, 13, 14, 15, 16, 17, 18, 19]
def R_slices_IsSorted_5 : AC := .ops false [⟨some 2, .mov (.c (.bool false)), none, []⟩] [0, 3, 20]
def R_slices_IsSorted_3 : AC := .ops false [⟨some 9, .mov (.t 3), none, []⟩,
  ⟨some 10, .bin .sub (.t 9) (.c (.int .i64 1)), none, []⟩,
  ⟨some 3, .mov (.t 10), none, []⟩] [9, 10, 20]
def L_slices_IsSorted_1 : AC := (.seq (.seq R_slices_IsSorted_2 (.cond (.t 8) .skip (.exit 0))) (.seq (.block 1 (.seq R_slices_IsSorted_4 (.cond (.t 20) (.seq R_slices_IsSorted_5 .ret) .skip))) R_slices_IsSorted_3))
def R_slices_IsSorted_6 : AC := .ops false [⟨some 2, .mov (.c (.bool true)), none, []⟩] [0, 3, 8]
def F_slices_IsSorted : AFunc := { ntmps := 21, nargs := 1, kills := [[2], [4, 5, 6], [7], [9, 10, 20], [8, 11, 12, 13, 14, 15, 16, 17, 18, 19], [0, 3, 20], [0, 3, 8]], results := [.t 2], body := (.seq R_slices_IsSorted_0 (.seq (.seq R_slices_IsSorted_1 (.block 0 (.loop L_slices_IsSorted_1))) (.seq R_slices_IsSorted_6 .ret))) }
abbrev k_slices_IsSorted : Nat := 182
-- (*suffrage/choose.Count).One
def R_choose_Count_One_0 : AC := .ops false [⟨some 8, .alloc [.lst 0 [] (some 0), .lst 0 [] (some 0), .lst 0 [] (some 0)], none, []⟩] []
def R_choose_Count_One_1 : AC := .ops false [⟨some 9, .mov (.t 0), none, []⟩,
  ⟨some 10, .mov (.t 0), none, []⟩,
  ⟨some 11, .mov (.t 1), none, []⟩,
  ⟨some 12, .mov (.t 3), none, []⟩,
  ⟨some 13, .call (.fn 263) [.t 10, .t 11, .t 12], none, []⟩,
  ⟨some 14, .nilchk (.t 9), none, []⟩,
  ⟨some 15, .fa (.t 14) 0, none, []⟩,
  ⟨some 16, .fa (.t 15) 0, none, []⟩,
  ⟨none, .store 1 (.t 16) (.t 13), none, []⟩] [3, 9, 10, 11, 12, 13, 14, 15, 16]
def R_choose_Count_One_2 : AC := .ops true [⟨some 17, .mov (.t 0), none, []⟩,
  ⟨some 18, .mov (.t 1), none, []⟩,
  ⟨some 19, .call (.fn 118) [.t 18], none, [1]⟩,
  ⟨some 20, .mov (.t 2), none, []⟩,
  ⟨some 21, .call (.fn 31) [.t 20], none, [3, 2]⟩,
  ⟨some 22, .mov (.t 0), none, []⟩,
  ⟨some 23, .nilchk (.t 22), none, [5]⟩,
  ⟨some 24, .fa (.t 23) 0, none, [6]⟩,
  ⟨some 25, .fa (.t 24) 0, none, [7]⟩,
  ⟨some 26, .load 1 true (.t 25), none, [8]⟩,
  ⟨some 27, .call (.fn 35) [.t 26], none, [9, 4]⟩,
  ⟨some 28, .build [.lst 0 [] (some 0), .bool false, .lst 0 [] (some 0), .lst 0 [] (some 0), .lst 0 [] (some 0), .lst 0 [] (some 0)] [(0, 1, .t 19), (1, 3, .t 21), (4, 1, .t 27)], none, [2, 4, 10]⟩,
  ⟨some 29, .bslice 6 [.lst 0 [] (some 0), .bool false, .lst 0 [] (some 0), .lst 0 [] (some 0), .lst 0 [] (some 0), .lst 0 [] (some 0)] 1 [(0, .t 28)], none, [11]⟩,
  ⟨some 30, .nilchk (.t 17), none, [0, 0, 1, 2, 3, 4, 5, 6, 7, 8, 9, 10, 11, 12]⟩,
  ⟨some 31, .fa (.t 30) 0, none, [13, 0, 1, 2, 3, 4, 5, 6, 7, 8, 9, 10, 11, 12]⟩,
  ⟨some 32, .fa (.t 31) 1, none, [14, 0, 1, 2, 3, 4, 5, 6, 7, 8, 9, 10, 11, 12]⟩,
  ⟨none, .store 1 (.t 32) (.t 29), none, [15, 12, 10, 0, 1, 2, 3, 4, 5, 6, 7, 8, 9, 10, 11, 12]⟩] [1, 2, 17, 18, 19, 20, 21, 22, 23, 24, 25, 26, 27, 28, 29, 30, 31, 32]
def R_choose_Count_One_3 : AC := .ops false [⟨some 33, .mov (.t 0), none, []⟩,
  ⟨some 34, .nilchk (.t 33), none, []⟩,
  ⟨some 35, .fa (.t 34) 0, none, []⟩,
  ⟨some 36, .load 3 false (.t 35), none, []⟩,
  ⟨none, .store 3 (.t 8) (.t 36), none, []⟩] [0, 33, 34, 35, 36]
def F_choose_Count_One : AFunc := { ntmps := 37, nargs := 4, kills := [[], [3, 9, 10, 11, 12, 13, 14, 15, 16], [1, 2, 17, 18, 19, 20, 21, 22, 23, 24, 25, 26, 27, 28, 29, 30, 31, 32], [0, 33, 34, 35, 36]], results := [.cell 8 3 false], body := (.seq R_choose_Count_One_0 (.seq R_choose_Count_One_1 (.seq R_choose_Count_One_2 (.seq R_choose_Count_One_3 .ret)))) }
abbrev k_choose_Count_One : Nat := 183
-- suffrage/pairs.within
def R_pairs_within_0 : AC := .ops false [⟨some 4, .mov (.c (.bool false)), none, []⟩] [4]
def R_pairs_within_1 : AC := .ops false [⟨some 5, .mov (.t 0), none, []⟩,
  ⟨some 6, .bin .geq (.t 5) (.c (.int .i64 0)), none, []⟩,
  ⟨some 7, .mov (.t 6), none, []⟩,
  ⟨some 8, .mov (.t 0), some (7, true), []⟩,
  ⟨some 9, .mov (.t 1), some (7, true), []⟩,
  ⟨some 10, .bin .lss (.t 8) (.t 9), some (7, true), []⟩,
  ⟨some 11, .pick (.t 7) (.t 10) (.c (.bool false)), none, []⟩,
  ⟨some 4, .mov (.t 11), none, []⟩] [0, 1, 5, 6, 7, 8, 9, 10, 11]
def F_pairs_within : AFunc := { ntmps := 12, nargs := 2, kills := [[4], [0, 1, 5, 6, 7, 8, 9, 10, 11]], results := [.t 4], body := (.seq R_pairs_within_0 (.seq R_pairs_within_1 .ret)) }
abbrev k_pairs_within : Nat := 184
-- suffrage/pairs.Right
def R_pairs_Right_0 : AC := .ops false [⟨some 2, .box (.t 0), none, []⟩,
  ⟨some 4, .mov (.c (.bool false)), none, []⟩] [0, 4]
def R_pairs_Right_1 : AC := .ops false [⟨some 10, .mov (.t 1), none, []⟩,
  ⟨some 11, .bin .lss (.t 10) (.c (.int .i64 1)), none, []⟩,
  ⟨some 12, .mov (.t 11), none, []⟩,
  ⟨some 13, .mov (.t 1), some (12, false), []⟩,
  ⟨some 14, .bin .gtr (.t 13) (.c (.int .i64 10)), some (12, false), []⟩,
  ⟨some 15, .pick (.t 12) (.c (.bool true)) (.t 14), none, []⟩] [10, 11, 12, 13, 14]
def R_pairs_Right_2 : AC := .ops false [⟨some 4, .mov (.c (.bool false)), none, []⟩] [1, 2, 15]
def R_pairs_Right_3 : AC := .ops false [⟨some 16, .load 100 false (.t 2), none, []⟩,
  ⟨some 5, .alloc [.int .i64 0, .int .i64 0, .int .i64 0, .int .i64 0, .int .i64 0, .int .i64 0, .int .i64 0, .int .i64 0, .int .i64 0, .int .i64 0, .int .i64 0, .int .i64 0, .int .i64 0, .int .i64 0, .int .i64 0, .int .i64 0, .int .i64 0, .int .i64 0, .int .i64 0, .int .i64 0, .int .i64 0, .int .i64 0, .int .i64 0, .int .i64 0, .int .i64 0, .int .i64 0, .int .i64 0, .int .i64 0, .int .i64 0, .int .i64 0, .int .i64 0, .int .i64 0, .int .i64 0, .int .i64 0, .int .i64 0, .int .i64 0, .int .i64 0, .int .i64 0, .int .i64 0, .int .i64 0, .int .i64 0, .int .i64 0, .int .i64 0, .int .i64 0, .int .i64 0, .int .i64 0, .int .i64 0, .int .i64 0, .int .i64 0, .int .i64 0, .int .i64 0, .int .i64 0, .int .i64 0, .int .i64 0, .int .i64 0, .int .i64 0, .int .i64 0, .int .i64 0, .int .i64 0, .int .i64 0, .int .i64 0, .int .i64 0, .int .i64 0, .int .i64 0, .int .i64 0, .int .i64 0, .int .i64 0, .int .i64 0, .int .i64 0, .int .i64 0, .int .i64 0, .int .i64 0, .int .i64 0, .int .i64 0, .int .i64 0, .int .i64 0, .int .i64 0, .int .i64 0, .int .i64 0, .int .i64 0, .int .i64 0, .int .i64 0, .int .i64 0, .int .i64 0, .int .i64 0, .int .i64 0, .int .i64 0, .int .i64 0, .int .i64 0, .int .i64 0, .int .i64 0, .int .i64 0, .int .i64 0, .int .i64 0, .int .i64 0, .int .i64 0, .int .i64 0, .int .i64 0, .int .i64 0, .int .i64 0], none, []⟩,
  ⟨none, .store 100 (.t 5) (.t 16), none, []⟩] [15, 16]
def R_pairs_Right_4 : AC := .ops false [⟨some 17, .load 100 false (.t 2), none, []⟩,
  ⟨some 18, .mov (.c (.int .i64 0)), none, []⟩] []
def R_pairs_Right_5 : AC := .ops false [⟨some 19, .bin .lss (.t 18) (.c (.int .i64 10)), none, []⟩] []
def R_pairs_Right_6 : AC := .ops false [⟨some 20, .mov (.t 18), none, []⟩,
  ⟨some 21, .idx 10 10 false (.t 17) (.t 18), none, []⟩,
  ⟨some 7, .alloc [.int .i64 0, .int .i64 0, .int .i64 0, .int .i64 0, .int .i64 0, .int .i64 0, .int .i64 0, .int .i64 0, .int .i64 0, .int .i64 0], none, []⟩,
  ⟨some 6, .mov (.t 20), none, []⟩,
  ⟨none, .store 10 (.t 7) (.t 21), none, []⟩] [19, 20, 21]
def R_pairs_Right_7 : AC := .ops false [⟨some 22, .load 10 false (.t 7), none, []⟩,
  ⟨some 23, .mov (.c (.int .i64 0)), none, []⟩] [7]
def R_pairs_Right_8 : AC := .ops false [⟨some 24, .bin .lss (.t 23) (.c (.int .i64 10)), none, []⟩] []
def R_pairs_Right_9 : AC := .ops false [⟨some 25, .mov (.t 23), none, []⟩,
  ⟨some 26, .idx 1 10 true (.t 22) (.t 23), none, []⟩,
  ⟨some 8, .mov (.t 25), none, []⟩,
  ⟨some 9, .mov (.t 26), none, []⟩] [24, 25, 26]
def R_pairs_Right_10 : AC := .ops false [⟨some 27, .mov (.t 9), none, []⟩,
  ⟨some 28, .bin .lss (.t 27) (.c (.int .i64 0)), none, []⟩,
  ⟨some 29, .mov (.t 28), none, []⟩,
  ⟨some 30, .mov (.t 9), some (29, false), []⟩,
  ⟨some 31, .mov (.t 8), some (29, false), []⟩,
  ⟨some 32, .mov (.t 6), some (29, false), []⟩,
  ⟨some 33, .iaa 10 10 (.t 2) (.t 31), some (29, false), []⟩,
  ⟨some 34, .iaa 1 10 (.t 33) (.t 32), some (29, false), []⟩,
  ⟨some 35, .load 1 true (.t 34), some (29, false), []⟩,
  ⟨some 36, .max [.t 35, .c (.int .i64 0)], some (29, false), []⟩,
  ⟨some 37, .min [.t 36, .c (.int .i64 1000000)], some (29, false), []⟩,
  ⟨some 38, .bin .sub (.c (.int .i64 1000000)) (.t 37), some (29, false), []⟩,
  ⟨some 39, .bin .gtr (.t 30) (.t 38), some (29, false), []⟩,
  ⟨some 40, .pick (.t 29) (.c (.bool true)) (.t 39), none, []⟩] [9, 27, 28, 29, 30, 31, 32, 33, 34, 35, 36, 37, 38, 39]
def R_pairs_Right_11 : AC := .ops false [⟨some 4, .mov (.c (.bool false)), none, []⟩] [1, 2, 5, 6, 8, 17, 18, 22, 23, 40]
def R_pairs_Right_12 : AC := .ops false [⟨some 41, .mov (.t 6), none, []⟩,
  ⟨some 42, .mov (.t 8), none, []⟩,
  ⟨some 43, .bin .eql (.t 41) (.t 42), none, []⟩,
  ⟨some 44, .mov (.t 43), none, []⟩,
  ⟨some 45, .mov (.t 6), some (44, false), []⟩,
  ⟨some 46, .mov (.t 1), some (44, false), []⟩,
  ⟨some 47, .call (.fn 184) [.t 45, .t 46], some (44, false), []⟩,
  ⟨some 48, .un .not (.t 47), some (44, false), []⟩,
  ⟨some 49, .pick (.t 44) (.c (.bool true)) (.t 48), none, []⟩,
  ⟨some 50, .mov (.t 49), none, []⟩,
  ⟨some 51, .mov (.t 8), some (50, false), []⟩,
  ⟨some 52, .mov (.t 1), some (50, false), []⟩,
  ⟨some 53, .call (.fn 184) [.t 51, .t 52], some (50, false), []⟩,
  ⟨some 54, .un .not (.t 53), some (50, false), []⟩,
  ⟨some 55, .pick (.t 50) (.c (.bool true)) (.t 54), none, []⟩] [40, 41, 42, 43, 44, 45, 46, 47, 48, 49, 50, 51, 52, 53, 54]
def R_pairs_Right_13 : AC := .ops false [⟨some 56, .mov (.t 6), none, []⟩,
  ⟨some 57, .mov (.t 8), none, []⟩,
  ⟨some 58, .iaa 10 10 (.t 5) (.t 56), none, []⟩,
  ⟨some 59, .iaa 1 10 (.t 58) (.t 57), none, []⟩,
  ⟨none, .store 1 (.t 59) (.c (.int .i64 0)), none, []⟩] [8, 55, 56, 57, 58, 59]
def R_pairs_Right_14 : AC := .ops false [⟨some 60, .bin .add (.t 23) (.c (.int .i64 1)), none, []⟩,
  ⟨some 23, .mov (.t 60), none, []⟩] [8, 55, 60]
def L_pairs_Right_1 : AC := (.seq R_pairs_Right_8 (.seq (.cond (.t 24) .skip (.exit 2)) (.seq (.block 3 (.seq R_pairs_Right_9 (.seq (.seq R_pairs_Right_10 (.cond (.t 40) (.seq R_pairs_Right_11 .ret) .skip)) (.seq R_pairs_Right_12 (.cond (.t 55) R_pairs_Right_13 .skip))))) R_pairs_Right_14)))
def R_pairs_Right_15 : AC := .ops false [⟨some 61, .bin .add (.t 18) (.c (.int .i64 1)), none, []⟩,
  ⟨some 18, .mov (.t 61), none, []⟩] [6, 22, 23, 24, 61]
def L_pairs_Right_2 : AC := (.seq R_pairs_Right_5 (.seq (.cond (.t 19) .skip (.exit 0)) (.seq (.block 1 (.seq R_pairs_Right_6 (.seq R_pairs_Right_7 (.block 2 (.loop L_pairs_Right_1))))) R_pairs_Right_15)))
def R_pairs_Right_16 : AC := .ops false [⟨some 62, .load 100 false (.t 5), none, []⟩,
  ⟨some 63, .load 100 false (.t 2), none, []⟩,
  ⟨some 64, .acmp (.arr 10 10 false (.arr 10 1 true (.leaf 0))) false (.t 62) (.t 63), none, []⟩,
  ⟨some 4, .mov (.t 64), none, []⟩] [1, 2, 5, 17, 18, 19, 62, 63, 64]
def F_pairs_Right : AFunc := { ntmps := 65, nargs := 2, kills := [[0, 4], [10, 11, 12, 13, 14], [1, 2, 15], [15, 16], [], [], [19, 20, 21], [7], [], [24, 25, 26], [9, 27, 28, 29, 30, 31, 32, 33, 34, 35, 36, 37, 38, 39], [1, 2, 5, 6, 8, 17, 18, 22, 23, 40], [40, 41, 42, 43, 44, 45, 46, 47, 48, 49, 50, 51, 52, 53, 54], [8, 55, 56, 57, 58, 59], [8, 55, 60], [6, 22, 23, 24, 61], [1, 2, 5, 17, 18, 19, 62, 63, 64]], results := [.t 4], body := (.seq R_pairs_Right_0 (.seq (.seq R_pairs_Right_1 (.cond (.t 15) (.seq R_pairs_Right_2 .ret) .skip)) (.seq R_pairs_Right_3 (.seq (.seq R_pairs_Right_4 (.block 0 (.loop L_pairs_Right_2))) (.seq R_pairs_Right_16 .ret))))) }
abbrev k_pairs_Right : Nat := 185
-- suffrage/condorcet.count$1
def R_condorcet_count_1_0 : AC := .ops false [⟨some 4, .mov (.c (.int .i64 0)), none, []⟩] [4]
def R_condorcet_count_1_1 : AC := .ops false [⟨some 5, .load 1 true (.t 1), none, []⟩,
  ⟨some 6, .load 100 false (.t 2), none, []⟩,
  ⟨some 7, .mov (.t 0), none, []⟩,
  ⟨some 8, .call (.dyn (.t 5)) [.t 6, .t 7], none, []⟩,
  ⟨some 4, .mov (.t 8), none, []⟩] [0, 1, 2, 5, 6, 7, 8]
def F_condorcet_count_1 : AFunc := { ntmps := 9, nargs := 3, kills := [[4], [0, 1, 2, 5, 6, 7, 8]], results := [.t 4], body := (.seq R_condorcet_count_1_0 (.seq R_condorcet_count_1_1 .ret)) }
abbrev k_condorcet_count_1 : Nat := 186
-- suffrage/choose.Lot
def R_choose_Lot_0 : AC := .ops false [⟨some 4, .mov (.c (.bool false)), none, []⟩] [4]
def R_choose_Lot_1 : AC := .ops false [⟨some 8, .mov (.t 0), none, []⟩,
  ⟨some 9, .call (.fn 64) [.t 8], none, []⟩,
  ⟨some 10, .call (.fn 63) [.t 9], none, []⟩,
  ⟨some 5, .mov (.t 10), none, []⟩] [0, 8, 9, 10]
def R_choose_Lot_2 : AC := .ops false [⟨some 11, .mov (.t 5), none, []⟩,
  ⟨some 12, .len (.t 11), none, []⟩,
  ⟨some 13, .mov (.c (.int .i64 0)), none, []⟩] []
def R_choose_Lot_3 : AC := .ops false [⟨some 14, .bin .lss (.t 13) (.t 12), none, []⟩] []
def R_choose_Lot_4 : AC := .ops false [⟨some 15, .mov (.t 13), none, []⟩,
  ⟨some 16, .ia 1 (.t 11) (.t 13), none, []⟩,
  ⟨some 17, .load 1 true (.t 16), none, []⟩,
  ⟨some 6, .mov (.t 15), none, []⟩,
  ⟨some 7, .mov (.t 17), none, []⟩] [14, 15, 16, 17]
def R_choose_Lot_5 : AC := .ops false [⟨some 18, .mov (.t 6), none, []⟩,
  ⟨some 19, .mov (.t 7), none, []⟩,
  ⟨some 20, .bin .neq (.t 18) (.t 19), none, []⟩] [6, 7, 18, 19]
def R_choose_Lot_6 : AC := .ops false [⟨some 4, .mov (.c (.bool false)), none, []⟩] [1, 5, 11, 12, 13, 20]
def R_choose_Lot_7 : AC := .ops false [⟨some 21, .bin .add (.t 13) (.c (.int .i64 1)), none, []⟩,
  ⟨some 13, .mov (.t 21), none, []⟩] [20, 21]
def L_choose_Lot_1 : AC := (.seq R_choose_Lot_3 (.seq (.cond (.t 14) .skip (.exit 0)) (.seq (.block 1 (.seq R_choose_Lot_4 (.seq R_choose_Lot_5 (.cond (.t 20) (.seq R_choose_Lot_6 .ret) .skip)))) R_choose_Lot_7)))
def R_choose_Lot_8 : AC := .ops false [⟨some 22, .mov (.t 5), none, []⟩,
  ⟨some 23, .len (.t 22), none, []⟩,
  ⟨some 24, .mov (.t 1), none, []⟩,
  ⟨some 25, .bin .eql (.t 23) (.t 24), none, []⟩,
  ⟨some 4, .mov (.t 25), none, []⟩] [1, 5, 11, 12, 13, 14, 22, 23, 24, 25]
def F_choose_Lot : AFunc := { ntmps := 26, nargs := 2, kills := [[4], [0, 8, 9, 10], [], [], [14, 15, 16, 17], [6, 7, 18, 19], [1, 5, 11, 12, 13, 20], [20, 21], [1, 5, 11, 12, 13, 14, 22, 23, 24, 25]], results := [.t 4], body := (.seq R_choose_Lot_0 (.seq R_choose_Lot_1 (.seq (.seq R_choose_Lot_2 (.block 0 (.loop L_choose_Lot_1))) (.seq R_choose_Lot_8 .ret)))) }
abbrev k_choose_Lot : Nat := 187
-- suffrage/ballot.Prefers
def R_ballot_Prefers_0 : AC := .ops false [⟨some 3, .box (.t 0), none, []⟩,
  ⟨some 6, .mov (.c (.bool false)), none, []⟩] [0, 6]
def R_ballot_Prefers_1 : AC := .ops false [⟨some 9, .mov (.t 1), none, []⟩,
  ⟨some 10, .bin .lss (.t 9) (.c (.int .i64 0)), none, []⟩,
  ⟨some 11, .mov (.t 10), none, []⟩,
  ⟨some 12, .mov (.t 2), some (11, false), []⟩,
  ⟨some 13, .bin .lss (.t 12) (.c (.int .i64 0)), some (11, false), []⟩,
  ⟨some 14, .pick (.t 11) (.c (.bool true)) (.t 13), none, []⟩] [9, 10, 11, 12, 13]
def R_ballot_Prefers_2 : AC := .ops false [⟨some 6, .mov (.c (.bool false)), none, []⟩] [1, 2, 3, 14]
def R_ballot_Prefers_3 : AC := .ops true [⟨some 15, .fa (.t 3) 1, none, []⟩,
  ⟨some 16, .load 1 true (.t 15), none, [0]⟩,
  ⟨some 17, .mov (.t 1), none, []⟩,
  ⟨some 18, .call (.fn 264) [.t 16, .t 17], none, [1, 2]⟩,
  ⟨some 19, .fa (.t 3) 1, none, []⟩,
  ⟨some 20, .load 1 true (.t 19), none, [4]⟩,
  ⟨some 21, .mov (.t 2), none, []⟩,
  ⟨some 22, .call (.fn 264) [.t 20, .t 21], none, [5, 6, 3]⟩,
  ⟨some 7, .mov (.t 18), none, [3, 7, 0, 1, 2, 3]⟩,
  ⟨some 8, .mov (.t 22), none, [7, 8, 0, 1, 2, 3, 4, 5, 6, 7, 8]⟩] [14, 15, 16, 17, 18, 19, 20, 21, 22]
def R_ballot_Prefers_4 : AC := .ops false [⟨some 23, .fa (.t 3) 0, none, []⟩,
  ⟨some 24, .load 1 true (.t 23), none, []⟩] [23]
def R_ballot_Prefers_5 : AC := .ops false [⟨some 26, .bin .eql (.t 24) (.c (.int .u8 1)), none, []⟩,
  ⟨some 25, .mov (.t 26), none, []⟩] [26]
def R_ballot_Prefers_6 : AC := .ops false [⟨some 27, .mov (.t 7), none, []⟩,
  ⟨some 28, .bin .geq (.t 27) (.c (.int .i64 0)), none, []⟩,
  ⟨some 29, .mov (.t 28), none, []⟩,
  ⟨some 30, .mov (.t 8), some (29, true), []⟩,
  ⟨some 31, .bin .lss (.t 30) (.c (.int .i64 0)), some (29, true), []⟩,
  ⟨some 32, .mov (.t 31), some (29, true), []⟩,
  ⟨some 33, .mov (.t 7), some (32, false), []⟩,
  ⟨some 34, .mov (.t 8), some (32, false), []⟩,
  ⟨some 35, .bin .lss (.t 33) (.t 34), some (32, false), []⟩,
  ⟨some 36, .pick (.t 32) (.c (.bool true)) (.t 35), some (29, true), []⟩,
  ⟨some 37, .pick (.t 29) (.t 36) (.c (.bool false)), none, []⟩,
  ⟨some 6, .mov (.t 37), none, []⟩] [1, 2, 3, 7, 8, 24, 25, 27, 28, 29, 30, 31, 32, 33, 34, 35, 36, 37]
def R_ballot_Prefers_7 : AC := .ops false [⟨some 39, .bin .eql (.t 24) (.c (.int .u8 2)), none, []⟩,
  ⟨some 38, .mov (.t 39), none, []⟩] [25, 39]
def R_ballot_Prefers_8 : AC := .ops false [⟨some 40, .mov (.t 7), none, []⟩,
  ⟨some 41, .bin .geq (.t 40) (.c (.int .i64 0)), none, []⟩,
  ⟨some 42, .mov (.t 41), none, []⟩,
  ⟨some 43, .mov (.t 8), some (42, true), []⟩,
  ⟨some 44, .bin .lss (.t 43) (.c (.int .i64 0)), some (42, true), []⟩,
  ⟨some 45, .pick (.t 42) (.t 44) (.c (.bool false)), none, []⟩,
  ⟨some 6, .mov (.t 45), none, []⟩] [1, 2, 3, 7, 8, 24, 38, 40, 41, 42, 43, 44, 45]
def R_ballot_Prefers_9 : AC := .ops false [⟨some 47, .bin .eql (.t 24) (.c (.int .u8 3)), none, []⟩,
  ⟨some 46, .mov (.t 47), none, []⟩] [7, 8, 24, 38, 47]
def R_ballot_Prefers_10 : AC := .ops true [⟨some 48, .mov (.t 1), none, []⟩,
  ⟨some 49, .fa (.t 3) 1, none, []⟩,
  ⟨some 50, .load 1 true (.t 49), none, [1]⟩,
  ⟨some 51, .len (.t 50), none, [2]⟩,
  ⟨some 52, .bin .lss (.t 48) (.t 51), none, [0, 3]⟩,
  ⟨some 53, .mov (.t 52), none, [4]⟩,
  ⟨some 54, .mov (.t 2), some (53, true), [5]⟩,
  ⟨some 55, .fa (.t 3) 1, some (53, true), [5]⟩,
  ⟨some 56, .load 1 true (.t 55), some (53, true), [7, 5]⟩,
  ⟨some 57, .len (.t 56), some (53, true), [8, 5]⟩,
  ⟨some 58, .bin .lss (.t 54) (.t 57), some (53, true), [6, 9, 5]⟩,
  ⟨some 59, .pick (.t 53) (.t 58) (.c (.bool false)), none, [5, 10]⟩,
  ⟨some 60, .mov (.t 59), none, [11, 5]⟩,
  ⟨some 61, .fa (.t 3) 1, some (60, true), [12]⟩,
  ⟨some 62, .load 1 true (.t 61), some (60, true), [13, 12]⟩,
  ⟨some 63, .mov (.t 1), some (60, true), [12]⟩,
  ⟨some 64, .ia 1 (.t 62) (.t 63), some (60, true), [14, 15, 12]⟩,
  ⟨some 65, .load 1 true (.t 64), some (60, true), [16, 12]⟩,
  ⟨some 66, .fa (.t 3) 1, some (60, true), [12]⟩,
  ⟨some 67, .load 1 true (.t 66), some (60, true), [18, 12]⟩,
  ⟨some 68, .mov (.t 2), some (60, true), [12]⟩,
  ⟨some 69, .ia 1 (.t 67) (.t 68), some (60, true), [19, 20, 12]⟩,
  ⟨some 70, .load 1 true (.t 69), some (60, true), [21, 12]⟩,
  ⟨some 71, .bin .gtr (.t 65) (.t 70), some (60, true), [17, 22, 12]⟩,
  ⟨some 72, .pick (.t 60) (.t 71) (.c (.bool false)), none, [12, 23]⟩,
  ⟨some 6, .mov (.t 72), none, [24, 12, 0, 1, 2, 3, 4, 5, 6, 7, 8, 9, 10, 11, 12, 13, 14, 15, 16, 17, 18, 19, 20, 21, 22, 23, 24]⟩] [1, 2, 3, 46, 48, 49, 50, 51, 52, 53, 54, 55, 56, 57, 58, 59, 60, 61, 62, 63, 64, 65, 66, 67, 68, 69, 70, 71, 72]
def R_ballot_Prefers_11 : AC := .ops false [⟨some 6, .mov (.c (.bool false)), none, []⟩] [1, 2, 3, 46]
def F_ballot_Prefers : AFunc := { ntmps := 73, nargs := 3, kills := [[0, 6], [9, 10, 11, 12, 13], [1, 2, 3, 14], [14, 15, 16, 17, 18, 19, 20, 21, 22], [23], [26], [1, 2, 3, 7, 8, 24, 25, 27, 28, 29, 30, 31, 32, 33, 34, 35, 36, 37], [25, 39], [1, 2, 3, 7, 8, 24, 38, 40, 41, 42, 43, 44, 45], [7, 8, 24, 38, 47], [1, 2, 3, 46, 48, 49, 50, 51, 52, 53, 54, 55, 56, 57, 58, 59, 60, 61, 62, 63, 64, 65, 66, 67, 68, 69, 70, 71, 72], [1, 2, 3, 46]], results := [.t 6], body := (.seq R_ballot_Prefers_0 (.seq (.seq R_ballot_Prefers_1 (.cond (.t 14) (.seq R_ballot_Prefers_2 .ret) .skip)) (.seq R_ballot_Prefers_3 (.seq (.seq R_ballot_Prefers_4 (.block 0 (.seq R_ballot_Prefers_5 (.cond (.t 25) (.seq R_ballot_Prefers_6 .ret) (.seq R_ballot_Prefers_7 (.cond (.t 38) (.seq R_ballot_Prefers_8 .ret) (.seq R_ballot_Prefers_9 (.cond (.t 46) (.seq R_ballot_Prefers_10 .ret) .skip)))))))) (.seq R_ballot_Prefers_11 .ret))))) }
abbrev k_ballot_Prefers : Nat := 188
-- suffrage/paths.links
def R_paths_links_0 : AC := .ops false [⟨some 1, .box (.t 0), none, []⟩,
  ⟨some 2, .alloc [.int .i64 0, .int .i64 0, .int .i64 0, .int .i64 0, .int .i64 0, .int .i64 0, .int .i64 0, .int .i64 0, .int .i64 0, .int .i64 0, .int .i64 0, .int .i64 0, .int .i64 0, .int .i64 0, .int .i64 0, .int .i64 0, .int .i64 0, .int .i64 0, .int .i64 0, .int .i64 0, .int .i64 0, .int .i64 0, .int .i64 0, .int .i64 0, .int .i64 0, .int .i64 0, .int .i64 0, .int .i64 0, .int .i64 0, .int .i64 0, .int .i64 0, .int .i64 0, .int .i64 0, .int .i64 0, .int .i64 0, .int .i64 0, .int .i64 0, .int .i64 0, .int .i64 0, .int .i64 0, .int .i64 0, .int .i64 0, .int .i64 0, .int .i64 0, .int .i64 0, .int .i64 0, .int .i64 0, .int .i64 0, .int .i64 0, .int .i64 0, .int .i64 0, .int .i64 0, .int .i64 0, .int .i64 0, .int .i64 0, .int .i64 0, .int .i64 0, .int .i64 0, .int .i64 0, .int .i64 0, .int .i64 0, .int .i64 0, .int .i64 0, .int .i64 0, .int .i64 0, .int .i64 0, .int .i64 0, .int .i64 0, .int .i64 0, .int .i64 0, .int .i64 0, .int .i64 0, .int .i64 0, .int .i64 0, .int .i64 0, .int .i64 0, .int .i64 0, .int .i64 0, .int .i64 0, .int .i64 0, .int .i64 0, .int .i64 0, .int .i64 0, .int .i64 0, .int .i64 0, .int .i64 0, .int .i64 0, .int .i64 0, .int .i64 0, .int .i64 0, .int .i64 0, .int .i64 0, .int .i64 0, .int .i64 0, .int .i64 0, .int .i64 0, .int .i64 0, .int .i64 0, .int .i64 0, .int .i64 0], none, []⟩] [0]
def R_paths_links_1 : AC := .ops false [⟨some 6, .mov (.c (.int .i64 0)), none, []⟩] []
def R_paths_links_2 : AC := .ops false [⟨some 7, .bin .lss (.t 6) (.c (.int .i64 10)), none, []⟩] []
def R_paths_links_3 : AC := .ops false [⟨some 8, .mov (.t 6), none, []⟩,
  ⟨some 3, .mov (.t 8), none, []⟩] [7, 8]
def R_paths_links_4 : AC := .ops false [⟨some 9, .mov (.t 3), none, []⟩,
  ⟨some 10, .iaa 10 10 (.t 1) (.t 9), none, []⟩,
  ⟨some 11, .load 10 false (.t 10), none, []⟩,
  ⟨some 12, .mov (.c (.int .i64 0)), none, []⟩] [9, 10]
def R_paths_links_5 : AC := .ops false [⟨some 13, .bin .lss (.t 12) (.c (.int .i64 10)), none, []⟩] []
def R_paths_links_6 : AC := .ops false [⟨some 14, .mov (.t 12), none, []⟩,
  ⟨some 15, .idx 1 10 true (.t 11) (.t 12), none, []⟩,
  ⟨some 4, .mov (.t 14), none, []⟩,
  ⟨some 5, .mov (.t 15), none, []⟩] [13, 14, 15]
def R_paths_links_7 : AC := .ops false [⟨some 16, .mov (.t 5), none, []⟩,
  ⟨some 17, .mov (.t 4), none, []⟩,
  ⟨some 18, .mov (.t 3), none, []⟩,
  ⟨some 19, .iaa 10 10 (.t 1) (.t 17), none, []⟩,
  ⟨some 20, .iaa 1 10 (.t 19) (.t 18), none, []⟩,
  ⟨some 21, .load 1 true (.t 20), none, []⟩,
  ⟨some 22, .bin .gtr (.t 16) (.t 21), none, []⟩] [16, 17, 18, 19, 20, 21]
def R_paths_links_8 : AC := .ops false [⟨some 23, .mov (.t 3), none, []⟩,
  ⟨some 24, .mov (.t 4), none, []⟩,
  ⟨some 25, .mov (.t 5), none, []⟩,
  ⟨some 26, .iaa 10 10 (.t 2) (.t 23), none, []⟩,
  ⟨some 27, .iaa 1 10 (.t 26) (.t 24), none, []⟩,
  ⟨none, .store 1 (.t 27) (.t 25), none, []⟩] [4, 5, 22, 23, 24, 25, 26, 27]
def R_paths_links_9 : AC := .ops false [⟨some 28, .bin .add (.t 12) (.c (.int .i64 1)), none, []⟩,
  ⟨some 12, .mov (.t 28), none, []⟩] [4, 5, 22, 28]
def L_paths_links_1 : AC := (.seq R_paths_links_5 (.seq (.cond (.t 13) .skip (.exit 2)) (.seq (.block 3 (.seq R_paths_links_6 (.seq R_paths_links_7 (.cond (.t 22) R_paths_links_8 .skip)))) R_paths_links_9)))
def R_paths_links_10 : AC := .ops false [⟨some 29, .bin .add (.t 6) (.c (.int .i64 1)), none, []⟩,
  ⟨some 6, .mov (.t 29), none, []⟩] [3, 11, 12, 13, 29]
def L_paths_links_2 : AC := (.seq R_paths_links_2 (.seq (.cond (.t 7) .skip (.exit 0)) (.seq (.block 1 (.seq R_paths_links_3 (.seq R_paths_links_4 (.block 2 (.loop L_paths_links_1))))) R_paths_links_10)))
def R_paths_links_11 : AC := .ops false [⟨some 30, .load 100 false (.t 2), none, []⟩,
  ⟨none, .store 100 (.t 2) (.t 30), none, []⟩] [1, 6, 7, 30]
def F_paths_links : AFunc := { ntmps := 31, nargs := 1, kills := [[0], [], [], [7, 8], [9, 10], [], [13, 14, 15], [16, 17, 18, 19, 20, 21], [4, 5, 22, 23, 24, 25, 26, 27], [4, 5, 22, 28], [3, 11, 12, 13, 29], [1, 6, 7, 30]], results := [.cell 2 100 false], body := (.seq R_paths_links_0 (.seq (.seq R_paths_links_1 (.block 0 (.loop L_paths_links_2))) (.seq R_paths_links_11 .ret))) }
abbrev k_paths_links : Nat := 189
-- suffrage/paths.longer
def R_paths_longer_0 : AC := .ops false [⟨some 1, .box (.t 0), none, []⟩,
  ⟨some 2, .alloc [.int .i64 0, .int .i64 0, .int .i64 0, .int .i64 0, .int .i64 0, .int .i64 0, .int .i64 0, .int .i64 0, .int .i64 0, .int .i64 0, .int .i64 0, .int .i64 0, .int .i64 0, .int .i64 0, .int .i64 0, .int .i64 0, .int .i64 0, .int .i64 0, .int .i64 0, .int .i64 0, .int .i64 0, .int .i64 0, .int .i64 0, .int .i64 0, .int .i64 0, .int .i64 0, .int .i64 0, .int .i64 0, .int .i64 0, .int .i64 0, .int .i64 0, .int .i64 0, .int .i64 0, .int .i64 0, .int .i64 0, .int .i64 0, .int .i64 0, .int .i64 0, .int .i64 0, .int .i64 0, .int .i64 0, .int .i64 0, .int .i64 0, .int .i64 0, .int .i64 0, .int .i64 0, .int .i64 0, .int .i64 0, .int .i64 0, .int .i64 0, .int .i64 0, .int .i64 0, .int .i64 0, .int .i64 0, .int .i64 0, .int .i64 0, .int .i64 0, .int .i64 0, .int .i64 0, .int .i64 0, .int .i64 0, .int .i64 0, .int .i64 0, .int .i64 0, .int .i64 0, .int .i64 0, .int .i64 0, .int .i64 0, .int .i64 0, .int .i64 0, .int .i64 0, .int .i64 0, .int .i64 0, .int .i64 0, .int .i64 0, .int .i64 0, .int .i64 0, .int .i64 0, .int .i64 0, .int .i64 0, .int .i64 0, .int .i64 0, .int .i64 0, .int .i64 0, .int .i64 0, .int .i64 0, .int .i64 0, .int .i64 0, .int .i64 0, .int .i64 0, .int .i64 0, .int .i64 0, .int .i64 0, .int .i64 0, .int .i64 0, .int .i64 0, .int .i64 0, .int .i64 0, .int .i64 0, .int .i64 0], none, []⟩] [0]
def R_paths_longer_1 : AC := .ops false [⟨some 7, .load 100 false (.t 1), none, []⟩,
  ⟨some 3, .alloc [.int .i64 0, .int .i64 0, .int .i64 0, .int .i64 0, .int .i64 0, .int .i64 0, .int .i64 0, .int .i64 0, .int .i64 0, .int .i64 0, .int .i64 0, .int .i64 0, .int .i64 0, .int .i64 0, .int .i64 0, .int .i64 0, .int .i64 0, .int .i64 0, .int .i64 0, .int .i64 0, .int .i64 0, .int .i64 0, .int .i64 0, .int .i64 0, .int .i64 0, .int .i64 0, .int .i64 0, .int .i64 0, .int .i64 0, .int .i64 0, .int .i64 0, .int .i64 0, .int .i64 0, .int .i64 0, .int .i64 0, .int .i64 0, .int .i64 0, .int .i64 0, .int .i64 0, .int .i64 0, .int .i64 0, .int .i64 0, .int .i64 0, .int .i64 0, .int .i64 0, .int .i64 0, .int .i64 0, .int .i64 0, .int .i64 0, .int .i64 0, .int .i64 0, .int .i64 0, .int .i64 0, .int .i64 0, .int .i64 0, .int .i64 0, .int .i64 0, .int .i64 0, .int .i64 0, .int .i64 0, .int .i64 0, .int .i64 0, .int .i64 0, .int .i64 0, .int .i64 0, .int .i64 0, .int .i64 0, .int .i64 0, .int .i64 0, .int .i64 0, .int .i64 0, .int .i64 0, .int .i64 0, .int .i64 0, .int .i64 0, .int .i64 0, .int .i64 0, .int .i64 0, .int .i64 0, .int .i64 0, .int .i64 0, .int .i64 0, .int .i64 0, .int .i64 0, .int .i64 0, .int .i64 0, .int .i64 0, .int .i64 0, .int .i64 0, .int .i64 0, .int .i64 0, .int .i64 0, .int .i64 0, .int .i64 0, .int .i64 0, .int .i64 0, .int .i64 0, .int .i64 0, .int .i64 0, .int .i64 0], none, []⟩,
  ⟨none, .store 100 (.t 3) (.t 7), none, []⟩] [7]
def R_paths_longer_2 : AC := .ops false [⟨some 8, .mov (.c (.int .i64 0)), none, []⟩] []
def R_paths_longer_3 : AC := .ops false [⟨some 9, .bin .lss (.t 8) (.c (.int .i64 10)), none, []⟩] []
def R_paths_longer_4 : AC := .ops false [⟨some 10, .mov (.t 8), none, []⟩,
  ⟨some 4, .mov (.t 10), none, []⟩] [9, 10]
def R_paths_longer_5 : AC := .ops false [⟨some 11, .mov (.c (.int .i64 0)), none, []⟩] []
def R_paths_longer_6 : AC := .ops false [⟨some 12, .bin .lss (.t 11) (.c (.int .i64 10)), none, []⟩] []
def R_paths_longer_7 : AC := .ops false [⟨some 13, .mov (.t 11), none, []⟩,
  ⟨some 5, .mov (.t 13), none, []⟩] [12, 13]
def R_paths_longer_8 : AC := .ops false [⟨some 14, .mov (.c (.int .i64 0)), none, []⟩] []
def R_paths_longer_9 : AC := .ops false [⟨some 15, .bin .lss (.t 14) (.c (.int .i64 10)), none, []⟩] []
def R_paths_longer_10 : AC := .ops false [⟨some 16, .mov (.t 14), none, []⟩,
  ⟨some 6, .mov (.t 16), none, []⟩] [15, 16]
def R_paths_longer_11 : AC := .ops false [⟨some 17, .mov (.t 4), none, []⟩,
  ⟨some 18, .mov (.t 6), none, []⟩,
  ⟨some 19, .bin .neq (.t 17) (.t 18), none, []⟩] [17, 18]
def R_paths_longer_12 : AC := .ops true [⟨some 20, .mov (.t 4), none, []⟩,
  ⟨some 21, .mov (.t 6), none, []⟩,
  ⟨some 22, .mov (.t 4), none, []⟩,
  ⟨some 23, .mov (.t 6), none, []⟩,
  ⟨some 24, .iaa 10 10 (.t 3) (.t 22), none, [2]⟩,
  ⟨some 25, .iaa 1 10 (.t 24) (.t 23), none, [4, 3]⟩,
  ⟨some 26, .load 1 true (.t 25), none, [5]⟩,
  ⟨some 27, .mov (.t 4), none, []⟩,
  ⟨some 28, .mov (.t 5), none, []⟩,
  ⟨some 29, .iaa 10 10 (.t 1) (.t 27), none, [7]⟩,
  ⟨some 30, .iaa 1 10 (.t 29) (.t 28), none, [9, 8]⟩,
  ⟨some 31, .load 1 true (.t 30), none, [10]⟩,
  ⟨some 32, .mov (.t 5), none, []⟩,
  ⟨some 33, .mov (.t 6), none, []⟩,
  ⟨some 34, .iaa 10 10 (.t 1) (.t 32), none, [12]⟩,
  ⟨some 35, .iaa 1 10 (.t 34) (.t 33), none, [14, 13]⟩,
  ⟨some 36, .load 1 true (.t 35), none, [15]⟩,
  ⟨some 37, .min [.t 31, .t 36], none, [11, 16]⟩,
  ⟨some 38, .max [.t 26, .t 37], none, [6, 17]⟩,
  ⟨some 39, .iaa 10 10 (.t 3) (.t 20), none, [0]⟩,
  ⟨some 40, .iaa 1 10 (.t 39) (.t 21), none, [19, 1, 0, 1, 2, 3, 4, 5, 6, 7, 8, 9, 10, 11, 12, 13, 14, 15, 16, 17, 18]⟩,
  ⟨none, .store 1 (.t 40) (.t 38), none, [20, 18, 0, 1, 2, 3, 4, 5, 6, 7, 8, 9, 10, 11, 12, 13, 14, 15, 16, 17, 18]⟩] [6, 19, 20, 21, 22, 23, 24, 25, 26, 27, 28, 29, 30, 31, 32, 33, 34, 35, 36, 37, 38, 39, 40]
def R_paths_longer_13 : AC := .ops false [⟨some 41, .bin .add (.t 14) (.c (.int .i64 1)), none, []⟩,
  ⟨some 14, .mov (.t 41), none, []⟩] [6, 19, 41]
def L_paths_longer_1 : AC := (.seq R_paths_longer_9 (.seq (.cond (.t 15) .skip (.exit 4)) (.seq (.block 5 (.seq R_paths_longer_10 (.seq R_paths_longer_11 (.cond (.t 19) R_paths_longer_12 .skip)))) R_paths_longer_13)))
def R_paths_longer_14 : AC := .ops false [⟨some 42, .bin .add (.t 11) (.c (.int .i64 1)), none, []⟩,
  ⟨some 11, .mov (.t 42), none, []⟩] [5, 14, 15, 42]
def L_paths_longer_2 : AC := (.seq R_paths_longer_6 (.seq (.cond (.t 12) .skip (.exit 2)) (.seq (.block 3 (.seq R_paths_longer_7 (.seq R_paths_longer_8 (.block 4 (.loop L_paths_longer_1))))) R_paths_longer_14)))
def R_paths_longer_15 : AC := .ops false [⟨some 43, .bin .add (.t 8) (.c (.int .i64 1)), none, []⟩,
  ⟨some 8, .mov (.t 43), none, []⟩] [4, 11, 12, 43]
def L_paths_longer_3 : AC := (.seq R_paths_longer_3 (.seq (.cond (.t 9) .skip (.exit 0)) (.seq (.block 1 (.seq R_paths_longer_4 (.seq R_paths_longer_5 (.block 2 (.loop L_paths_longer_2))))) R_paths_longer_15)))
def R_paths_longer_16 : AC := .ops false [⟨some 44, .load 100 false (.t 3), none, []⟩,
  ⟨none, .store 100 (.t 2) (.t 44), none, []⟩] [1, 3, 8, 9, 44]
def F_paths_longer : AFunc := { ntmps := 45, nargs := 1, kills := [[0], [7], [], [], [9, 10], [], [], [12, 13], [], [], [15, 16], [17, 18], [6, 19, 20, 21, 22, 23, 24, 25, 26, 27, 28, 29, 30, 31, 32, 33, 34, 35, 36, 37, 38, 39, 40], [6, 19, 41], [5, 14, 15, 42], [4, 11, 12, 43], [1, 3, 8, 9, 44]], results := [.cell 2 100 false], body := (.seq R_paths_longer_0 (.seq R_paths_longer_1 (.seq (.seq R_paths_longer_2 (.block 0 (.loop L_paths_longer_3))) (.seq R_paths_longer_16 .ret)))) }
abbrev k_paths_longer : Nat := 190
-- (*suffrage/choose.Count).tell
def R_choose_Count_tell_0 : AC := .ops false [⟨some 6, .mov (.c (.int .i64 0)), none, []⟩] [6]
def R_choose_Count_tell_1 : AC := .ops false [⟨some 8, .mov (.t 1), none, []⟩,
  ⟨some 9, .len (.t 8), none, []⟩,
  ⟨some 10, .bin .gtr (.t 9) (.c (.int .i64 1)), none, []⟩] [8, 9]
def R_choose_Count_tell_2 : AC := .ops false [⟨some 11, .mov (.t 1), none, []⟩,
  ⟨some 12, .call (.fn 35) [.t 11], none, []⟩,
  ⟨some 7, .mov (.t 12), none, []⟩] [1, 10, 11, 12]
def R_choose_Count_tell_3 : AC := .ops false [⟨some 13, .mov (.t 7), none, []⟩,
  ⟨some 14, .call (.fn 27) [.t 13], none, []⟩] [13, 14]
def R_choose_Count_tell_4 : AC := .ops false [⟨some 15, .mov (.t 0), none, []⟩,
  ⟨some 16, .mov (.t 0), none, []⟩,
  ⟨some 17, .nilchk (.t 16), none, []⟩,
  ⟨some 18, .fa (.t 17) 0, none, []⟩,
  ⟨some 19, .fa (.t 18) 2, none, []⟩,
  ⟨some 20, .load 1 true (.t 19), none, []⟩,
  ⟨some 21, .mov (.t 7), none, []⟩,
  ⟨some 22, .mov (.t 2), none, []⟩,
  ⟨some 23, .build [.lst 0 [] (some 0), .int .i64 0] [(0, 1, .t 21), (1, 1, .t 22)], none, []⟩,
  ⟨some 24, .bslice 2 [.lst 0 [] (some 0), .int .i64 0] 1 [(0, .t 23)], none, []⟩,
  ⟨some 25, .append 2 32 (.t 20) (.t 24), none, []⟩,
  ⟨some 26, .nilchk (.t 15), none, []⟩,
  ⟨some 27, .fa (.t 26) 0, none, []⟩,
  ⟨some 28, .fa (.t 27) 2, none, []⟩,
  ⟨none, .store 1 (.t 28) (.t 25), none, []⟩] [0, 7, 15, 16, 17, 18, 19, 20, 21, 22, 23, 24, 25, 26, 27, 28]
def R_choose_Count_tell_5 : AC := .ops false [⟨some 29, .mov (.t 2), none, []⟩,
  ⟨some 6, .mov (.t 29), none, []⟩] [0, 1, 2, 10, 29]
def F_choose_Count_tell : AFunc := { ntmps := 30, nargs := 3, kills := [[6], [8, 9], [1, 10, 11, 12], [13, 14], [0, 7, 15, 16, 17, 18, 19, 20, 21, 22, 23, 24, 25, 26, 27, 28], [0, 1, 2, 10, 29]], results := [.t 6], body := (.seq R_choose_Count_tell_0 (.seq (.seq R_choose_Count_tell_1 (.cond (.t 10) (.seq R_choose_Count_tell_2 (.seq R_choose_Count_tell_3 R_choose_Count_tell_4)) .skip)) (.seq R_choose_Count_tell_5 .ret))) }
abbrev k_choose_Count_tell : Nat := 191
-- (*suffrage/choose.Count).first
def R_choose_Count_first_0 : AC := .ops false [⟨some 2, .box (.t 0), none, []⟩,
  ⟨some 4, .mov (.c (.int .i64 0)), none, []⟩] [0, 4]
def R_choose_Count_first_1 : AC := .ops false [⟨some 5, .mov (.t 1), none, []⟩,
  ⟨some 6, .mkfn 266 [] [.t 2], none, []⟩,
  ⟨some 7, .call (.fn 265) [.t 5, .t 6], none, []⟩,
  ⟨some 4, .mov (.t 7), none, []⟩] [1, 2, 5, 6, 7]
def F_choose_Count_first : AFunc := { ntmps := 8, nargs := 2, kills := [[0, 4], [1, 2, 5, 6, 7]], results := [.t 4], body := (.seq R_choose_Count_first_0 (.seq R_choose_Count_first_1 .ret)) }
abbrev k_choose_Count_first : Nat := 192
-- suffrage/ranked.Order
def R_ranked_Order_0 : AC := .ops false [⟨some 3, .box (.t 0), none, []⟩,
  ⟨some 6, .mov (.c (.lst 0 [] (some 0))), none, []⟩,
  ⟨some 7, .mov (.c (.int .i64 0)), none, []⟩] [0, 7]
def R_ranked_Order_1 : AC := .ops false [⟨some 13, .load 100 false (.t 3), none, []⟩,
  ⟨some 14, .mov (.t 1), none, []⟩,
  ⟨some 15, .mov (.t 2), none, []⟩,
  ⟨some 16, .call (.fn 267) [.t 13, .t 14, .t 15], none, []⟩,
  ⟨some 7, .mov (.t 16), none, []⟩] [1, 13, 14, 15, 16]
def R_ranked_Order_2 : AC := .ops false [⟨some 17, .mov (.t 7), none, []⟩,
  ⟨some 18, .bin .neq (.t 17) (.c (.int .i64 0)), none, []⟩] [17]
def R_ranked_Order_3 : AC := .ops false [⟨some 19, .mov (.t 7), none, []⟩,
  ⟨some 6, .mov (.c (.lst 0 [] (some 0))), none, []⟩,
  ⟨some 7, .mov (.t 19), none, []⟩] [2, 3, 18, 19]
def R_ranked_Order_4 : AC := .ops false [⟨some 20, .mov (.t 2), none, []⟩,
  ⟨some 21, .len (.t 20), none, []⟩,
  ⟨some 22, .mov (.c (.int .i64 0)), none, []⟩] [7, 18]
def R_ranked_Order_5 : AC := .ops false [⟨some 23, .bin .lss (.t 22) (.t 21), none, []⟩] []
def R_ranked_Order_6 : AC := .ops false [⟨some 24, .ia 1 (.t 20) (.t 22), none, []⟩,
  ⟨some 25, .load 1 true (.t 24), none, []⟩,
  ⟨some 9, .mov (.t 25), none, []⟩] [23, 24, 25]
def R_ranked_Order_7 : AC := .ops false [⟨some 26, .mov (.t 2), none, []⟩,
  ⟨some 27, .len (.t 26), none, []⟩,
  ⟨some 28, .mov (.c (.int .i64 0)), none, []⟩] []
def R_ranked_Order_8 : AC := .ops false [⟨some 29, .bin .lss (.t 28) (.t 27), none, []⟩] []
def R_ranked_Order_9 : AC := .ops false [⟨some 30, .ia 1 (.t 26) (.t 28), none, []⟩,
  ⟨some 31, .load 1 true (.t 30), none, []⟩,
  ⟨some 11, .mov (.t 31), none, []⟩] [29, 30, 31]
def R_ranked_Order_10 : AC := .ops true [⟨some 32, .mov (.t 9), none, []⟩,
  ⟨some 33, .mov (.t 11), none, []⟩,
  ⟨some 34, .iaa 10 10 (.t 3) (.t 32), none, [0]⟩,
  ⟨some 35, .iaa 1 10 (.t 34) (.t 33), none, [2, 1]⟩,
  ⟨some 36, .load 1 true (.t 35), none, [3]⟩,
  ⟨some 37, .mov (.t 11), none, []⟩,
  ⟨some 38, .mov (.t 9), none, []⟩,
  ⟨some 39, .iaa 10 10 (.t 3) (.t 37), none, [5]⟩,
  ⟨some 40, .iaa 1 10 (.t 39) (.t 38), none, [7, 6]⟩,
  ⟨some 41, .load 1 true (.t 40), none, [8]⟩,
  ⟨some 42, .bin .sub (.t 36) (.t 41), none, [4, 9]⟩,
  ⟨some 12, .mov (.t 42), none, [10, 0, 1, 2, 3, 4, 5, 6, 7, 8, 9, 10]⟩] [32, 33, 34, 35, 36, 37, 38, 39, 40, 41, 42]
def R_ranked_Order_11 : AC := .ops false [⟨some 43, .mov (.t 12), none, []⟩,
  ⟨some 44, .bin .gtr (.t 43) (.c (.int .i64 0)), none, []⟩] [43]
def R_ranked_Order_12 : AC := .ops false [⟨some 45, .mov (.t 6), none, []⟩,
  ⟨some 46, .mov (.t 9), none, []⟩,
  ⟨some 47, .mov (.t 11), none, []⟩,
  ⟨some 48, .mov (.t 12), none, []⟩,
  ⟨some 49, .mov (.t 9), none, []⟩,
  ⟨some 50, .mov (.t 11), none, []⟩,
  ⟨some 51, .iaa 10 10 (.t 3) (.t 49), none, []⟩,
  ⟨some 52, .iaa 1 10 (.t 51) (.t 50), none, []⟩,
  ⟨some 53, .load 1 true (.t 52), none, []⟩,
  ⟨some 54, .build [.int .i64 0, .int .i64 0, .int .i64 0, .int .i64 0] [(0, 1, .t 46), (1, 1, .t 47), (2, 1, .t 48), (3, 1, .t 53)], none, []⟩,
  ⟨some 55, .bslice 4 [.int .i64 0, .int .i64 0, .int .i64 0, .int .i64 0] 1 [(0, .t 54)], none, []⟩,
  ⟨some 56, .append 4 32 (.t 45) (.t 55), none, []⟩,
  ⟨some 6, .mov (.t 56), none, []⟩] [11, 12, 44, 45, 46, 47, 48, 49, 50, 51, 52, 53, 54, 55, 56]
def R_ranked_Order_13 : AC := .ops false [⟨some 57, .bin .add (.t 28) (.c (.int .i64 1)), none, []⟩,
  ⟨some 28, .mov (.t 57), none, []⟩] [11, 12, 44, 57]
def L_ranked_Order_1 : AC := (.seq R_ranked_Order_8 (.seq (.cond (.t 29) .skip (.exit 2)) (.seq (.block 3 (.seq R_ranked_Order_9 (.seq R_ranked_Order_10 (.seq R_ranked_Order_11 (.cond (.t 44) R_ranked_Order_12 .skip))))) R_ranked_Order_13)))
def R_ranked_Order_14 : AC := .ops false [⟨some 58, .bin .add (.t 22) (.c (.int .i64 1)), none, []⟩,
  ⟨some 22, .mov (.t 58), none, []⟩] [9, 26, 27, 28, 29, 58]
def L_ranked_Order_2 : AC := (.seq R_ranked_Order_5 (.seq (.cond (.t 23) .skip (.exit 0)) (.seq (.block 1 (.seq R_ranked_Order_6 (.seq R_ranked_Order_7 (.block 2 (.loop L_ranked_Order_1))))) R_ranked_Order_14)))
def R_ranked_Order_15 : AC := .ops false [⟨some 59, .mov (.t 6), none, []⟩,
  ⟨some 60, .call (.fn 268) [.t 59, .f 269], none, []⟩] [2, 3, 20, 21, 22, 23, 59, 60]
def R_ranked_Order_16 : AC := .ops false [⟨some 61, .mov (.t 6), none, []⟩,
  ⟨some 6, .mov (.t 61), none, []⟩,
  ⟨some 7, .mov (.c (.int .i64 0)), none, []⟩] [61]
def F_ranked_Order : AFunc := { ntmps := 62, nargs := 3, kills := [[0, 7], [1, 13, 14, 15, 16], [17], [2, 3, 18, 19], [7, 18], [], [23, 24, 25], [], [], [29, 30, 31], [32, 33, 34, 35, 36, 37, 38, 39, 40, 41, 42], [43], [11, 12, 44, 45, 46, 47, 48, 49, 50, 51, 52, 53, 54, 55, 56], [11, 12, 44, 57], [9, 26, 27, 28, 29, 58], [2, 3, 20, 21, 22, 23, 59, 60], [61]], results := [.t 6, .t 7], body := (.seq R_ranked_Order_0 (.seq (.seq R_ranked_Order_1 (.seq R_ranked_Order_2 (.cond (.t 18) (.seq R_ranked_Order_3 .ret) .skip))) (.seq (.seq R_ranked_Order_4 (.block 0 (.loop L_ranked_Order_2))) (.seq R_ranked_Order_15 (.seq R_ranked_Order_16 .ret))))) }
abbrev k_ranked_Order : Nat := 193
-- suffrage/ranked.Leads
def R_ranked_Leads_0 : AC := .ops false [⟨some 3, .box (.t 0), none, []⟩,
  ⟨some 5, .box (.t 2), none, []⟩,
  ⟨some 6, .mov (.c (.bool false)), none, []⟩] [0, 2, 6]
def R_ranked_Leads_1 : AC := .ops false [⟨some 9, .load 1 true (.t 3), none, []⟩,
  ⟨some 10, .len (.t 9), none, []⟩,
  ⟨some 11, .mkslice 1 1 [.bool false] (.t 10) (.t 10), none, []⟩,
  ⟨some 7, .alloc [.lst 0 [] (some 0)], none, []⟩,
  ⟨none, .store 1 (.t 7) (.t 11), none, []⟩] [9, 10, 11]
def R_ranked_Leads_2 : AC := .ops false [⟨some 8, .alloc [.nilf], none, []⟩] []
def R_ranked_Leads_3 : AC := .ops false [⟨some 12, .mkfn 271 [] [.t 3, .t 7, .t 5, .t 8], none, []⟩,
  ⟨none, .store 1 (.t 8) (.t 12), none, []⟩] [3, 5, 7, 12]
def R_ranked_Leads_4 : AC := .ops false [⟨some 13, .load 1 true (.t 8), none, []⟩,
  ⟨some 14, .mov (.t 1), none, []⟩,
  ⟨some 15, .call (.dyn (.t 13)) [.t 14], none, []⟩,
  ⟨some 6, .mov (.t 15), none, []⟩] [1, 8, 13, 14, 15]
def F_ranked_Leads : AFunc := { ntmps := 16, nargs := 3, kills := [[0, 2, 6], [9, 10, 11], [], [3, 5, 7, 12], [1, 8, 13, 14, 15]], results := [.t 6], body := (.seq R_ranked_Leads_0 (.seq R_ranked_Leads_1 (.seq R_ranked_Leads_2 (.seq R_ranked_Leads_3 (.seq R_ranked_Leads_4 .ret))))) }
abbrev k_ranked_Leads : Nat := 194
-- slices.Index[[]suffrage/api.Link,suffrage/api.Link]
def R_slices_Index_2_0 : AC := .ops false [⟨some 3, .box (.t 1), none, []⟩,
  ⟨some 4, .mov (.c (.int .i64 0)), none, []⟩] [1, 4]
def R_slices_Index_2_1 : AC := .ops false [⟨some 6, .mov (.t 0), none, []⟩,
  ⟨some 7, .len (.t 6), none, []⟩,
  ⟨some 8, .mov (.c (.int .i64 0)), none, []⟩] [6]
def R_slices_Index_2_2 : AC := .ops false [⟨some 9, .bin .lss (.t 8) (.t 7), none, []⟩] []
def R_slices_Index_2_3 : AC := .ops false [⟨some 10, .mov (.t 8), none, []⟩,
  ⟨some 5, .mov (.t 10), none, []⟩] [9, 10]
def R_slices_Index_2_4 : AC := .ops true [⟨some 11, .load 4 false (.t 3), none, []⟩,
  ⟨some 12, .mov (.t 0), none, []⟩,
  ⟨some 13, .mov (.t 5), none, []⟩,
  ⟨some 14, .ia 4 (.t 12) (.t 13), none, [1, 2]⟩,
  ⟨some 15, .load 4 false (.t 14), none, [3]⟩,
  ⟨some 16, .acmp (.fld 0 1 true (.leaf 0) (.fld 1 1 true (.leaf 0) (.fld 2 1 true (.leaf 0) (.fld 3 1 true (.leaf 0) .nil)))) false (.t 11) (.t 15), none, [0, 4]⟩] [11, 12, 13, 14, 15]
def R_slices_Index_2_5 : AC := .ops false [⟨some 17, .mov (.t 5), none, []⟩,
  ⟨some 4, .mov (.t 17), none, []⟩] [0, 3, 5, 7, 8, 16, 17]
def R_slices_Index_2_6 : AC := .ops false [⟨some 18, .bin .add (.t 8) (.c (.int .i64 1)), none, []⟩,
  ⟨some 8, .mov (.t 18), none, []⟩] [5, 16, 18]
def L_slices_Index_2_1 : AC := (.seq R_slices_Index_2_2 (.seq (.cond (.t 9) .skip (.exit 0)) (.seq (.block 1 (.seq R_slices_Index_2_3 (.seq R_slices_Index_2_4 (.cond (.t 16) (.seq R_slices_Index_2_5 .ret) .skip)))) R_slices_Index_2_6)))
def R_slices_Index_2_7 : AC := .ops false [⟨some 4, .mov (.c (.int .i64 (-1))), none, []⟩] [0, 3, 7, 8, 9]
def F_slices_Index_2 : AFunc := { ntmps := 19, nargs := 2, kills := [[1, 4], [6], [], [9, 10], [11, 12, 13, 14, 15], [0, 3, 5, 7, 8, 16, 17], [5, 16, 18], [0, 3, 7, 8, 9]], results := [.t 4], body := (.seq R_slices_Index_2_0 (.seq (.seq R_slices_Index_2_1 (.block 0 (.loop L_slices_Index_2_1))) (.seq R_slices_Index_2_7 .ret))) }
abbrev k_slices_Index_2 : Nat := 195
-- suffrage/runoff.firsts
def R_runoff_firsts_0 : AC := .ops false [⟨some 2, .box (.t 0), none, []⟩,
  ⟨some 4, .mov (.c (.lst 0 [] (some 0))), none, []⟩,
  ⟨some 5, .mov (.c (.int .i64 0)), none, []⟩] [0, 4]
def R_runoff_firsts_1 : AC := .ops false [⟨some 9, .fa (.t 2) 0, none, []⟩,
  ⟨some 10, .load 1 true (.t 9), none, []⟩,
  ⟨some 11, .mkslice 1 8 [.int .i64 0] (.t 10) (.t 10), none, []⟩,
  ⟨some 4, .mov (.t 11), none, []⟩] [9, 10, 11]
def R_runoff_firsts_2 : AC := .ops false [⟨some 12, .fa (.t 2) 2, none, []⟩,
  ⟨some 13, .load 1 true (.t 12), none, []⟩,
  ⟨some 14, .len (.t 13), none, []⟩,
  ⟨some 15, .mov (.c (.int .i64 0)), none, []⟩] [2, 12]
def R_runoff_firsts_3 : AC := .ops false [⟨some 16, .bin .lss (.t 15) (.t 14), none, []⟩] []
def R_runoff_firsts_4 : AC := .ops false [⟨some 17, .ia 2 (.t 13) (.t 15), none, []⟩,
  ⟨some 18, .load 2 false (.t 17), none, []⟩,
  ⟨some 7, .alloc [.lst 0 [] (some 0), .int .i64 0], none, []⟩,
  ⟨none, .store 2 (.t 7) (.t 18), none, []⟩] [16, 17, 18]
def R_runoff_firsts_5 : AC := .ops false [⟨some 19, .fa (.t 7) 0, none, []⟩,
  ⟨some 20, .load 1 true (.t 19), none, []⟩,
  ⟨some 21, .mov (.t 1), none, []⟩,
  ⟨some 22, .call (.fn 148) [.t 20, .t 21], none, []⟩,
  ⟨some 8, .mov (.t 22), none, []⟩] [19, 20, 21, 22]
def R_runoff_firsts_6 : AC := .ops false [⟨some 23, .mov (.t 8), none, []⟩,
  ⟨some 24, .bin .geq (.t 23) (.c (.int .i64 0)), none, []⟩] [23]
def R_runoff_firsts_7 : AC := .ops true [⟨some 25, .mov (.t 4), none, []⟩,
  ⟨some 26, .fa (.t 7) 0, none, []⟩,
  ⟨some 27, .load 1 true (.t 26), none, [1]⟩,
  ⟨some 28, .mov (.t 8), none, []⟩,
  ⟨some 29, .ia 1 (.t 27) (.t 28), none, [2, 3]⟩,
  ⟨some 30, .load 1 true (.t 29), none, [4]⟩,
  ⟨some 31, .ia 1 (.t 25) (.t 30), none, [0, 5]⟩,
  ⟨some 32, .load 1 true (.t 31), none, [6]⟩,
  ⟨some 33, .fa (.t 7) 1, none, []⟩,
  ⟨some 34, .load 1 true (.t 33), none, [8]⟩,
  ⟨some 35, .bin .add (.t 32) (.t 34), none, [7, 9]⟩,
  ⟨some 36, .ia 1 (.t 25) (.t 30), none, [0, 5, 0, 1, 2, 3, 4, 5, 6, 7, 8, 9, 10]⟩,
  ⟨none, .store 1 (.t 36) (.t 35), none, [11, 10, 0, 1, 2, 3, 4, 5, 6, 7, 8, 9, 10]⟩] [7, 8, 24, 25, 26, 27, 28, 29, 30, 31, 32, 33, 34, 35, 36]
def R_runoff_firsts_8 : AC := .ops false [⟨some 37, .mov (.t 5), none, []⟩,
  ⟨some 38, .fa (.t 7) 1, none, []⟩,
  ⟨some 39, .load 1 true (.t 38), none, []⟩,
  ⟨some 40, .bin .add (.t 37) (.t 39), none, []⟩,
  ⟨some 5, .mov (.t 40), none, []⟩] [7, 8, 24, 37, 38, 39, 40]
def R_runoff_firsts_9 : AC := .ops false [⟨some 41, .bin .add (.t 15) (.c (.int .i64 1)), none, []⟩,
  ⟨some 15, .mov (.t 41), none, []⟩] [41]
def L_runoff_firsts_1 : AC := (.seq R_runoff_firsts_3 (.seq (.cond (.t 16) .skip (.exit 0)) (.seq (.block 1 (.seq R_runoff_firsts_4 (.seq R_runoff_firsts_5 (.seq R_runoff_firsts_6 (.cond (.t 24) R_runoff_firsts_7 R_runoff_firsts_8))))) R_runoff_firsts_9)))
def R_runoff_firsts_10 : AC := .ops false [⟨some 42, .mov (.t 4), none, []⟩,
  ⟨some 43, .mov (.t 5), none, []⟩,
  ⟨some 4, .mov (.t 42), none, []⟩,
  ⟨some 5, .mov (.t 43), none, []⟩] [1, 13, 14, 15, 16, 42, 43]
def F_runoff_firsts : AFunc := { ntmps := 44, nargs := 2, kills := [[0, 4], [9, 10, 11], [2, 12], [], [16, 17, 18], [19, 20, 21, 22], [23], [7, 8, 24, 25, 26, 27, 28, 29, 30, 31, 32, 33, 34, 35, 36], [7, 8, 24, 37, 38, 39, 40], [41], [1, 13, 14, 15, 16, 42, 43]], results := [.t 4, .t 5], body := (.seq R_runoff_firsts_0 (.seq R_runoff_firsts_1 (.seq (.seq R_runoff_firsts_2 (.block 0 (.loop L_runoff_firsts_1))) (.seq R_runoff_firsts_10 .ret)))) }
abbrev k_runoff_firsts : Nat := 196
-- (*suffrage/runoff.count).round$1
def R_runoff_count_round_1_0 : AC := .ops false [⟨some 3, .mov (.c (.bool false)), none, []⟩] [3]
def R_runoff_count_round_1_1 : AC := .ops false [⟨some 4, .load 1 true (.t 1), none, []⟩,
  ⟨some 5, .nilchk (.t 4), none, []⟩,
  ⟨some 6, .fa (.t 5) 4, none, []⟩,
  ⟨some 7, .load 1 true (.t 6), none, []⟩,
  ⟨some 8, .mov (.t 0), none, []⟩,
  ⟨some 9, .call (.fn 198) [.t 7, .t 8], none, []⟩,
  ⟨some 3, .mov (.t 9), none, []⟩] [0, 1, 4, 5, 6, 7, 8, 9]
def F_runoff_count_round_1 : AFunc := { ntmps := 10, nargs := 2, kills := [[3], [0, 1, 4, 5, 6, 7, 8, 9]], results := [.t 3], body := (.seq R_runoff_count_round_1_0 (.seq R_runoff_count_round_1_1 .ret)) }
abbrev k_runoff_count_round_1 : Nat := 197
-- slices.Contains[[]int,int]
def R_slices_Contains_3_0 : AC := .ops false [⟨some 4, .mov (.c (.bool false)), none, []⟩] [4]
def R_slices_Contains_3_1 : AC := .ops false [⟨some 5, .mov (.t 0), none, []⟩,
  ⟨some 6, .mov (.t 1), none, []⟩,
  ⟨some 7, .call (.fn 264) [.t 5, .t 6], none, []⟩,
  ⟨some 8, .bin .geq (.t 7) (.c (.int .i64 0)), none, []⟩,
  ⟨some 4, .mov (.t 8), none, []⟩] [0, 1, 5, 6, 7, 8]
def F_slices_Contains_3 : AFunc := { ntmps := 9, nargs := 2, kills := [[4], [0, 1, 5, 6, 7, 8]], results := [.t 4], body := (.seq R_slices_Contains_3_0 (.seq R_slices_Contains_3_1 .ret)) }
abbrev k_slices_Contains_3 : Nat := 198
-- (*suffrage/runoff.count).round$2
def R_runoff_count_round_2_0 : AC := .ops false [⟨some 3, .mov (.c (.int .i64 0)), none, []⟩] [3]
def R_runoff_count_round_2_1 : AC := .ops false [⟨some 4, .load 1 true (.t 1), none, []⟩,
  ⟨some 5, .mov (.t 0), none, []⟩,
  ⟨some 6, .ia 1 (.t 4) (.t 5), none, []⟩,
  ⟨some 7, .load 1 true (.t 6), none, []⟩,
  ⟨some 3, .mov (.t 7), none, []⟩] [0, 1, 4, 5, 6, 7]
def F_runoff_count_round_2 : AFunc := { ntmps := 8, nargs := 2, kills := [[3], [0, 1, 4, 5, 6, 7]], results := [.t 3], body := (.seq R_runoff_count_round_2_0 (.seq R_runoff_count_round_2_1 .ret)) }
abbrev k_runoff_count_round_2 : Nat := 199
-- (*suffrage/choose.Count).Last
def R_choose_Count_Last_0 : AC := .ops false [⟨some 4, .mov (.c (.int .i64 0)), none, []⟩] [4]
def R_choose_Count_Last_1 : AC := .ops false [⟨some 6, .mov (.t 0), none, []⟩,
  ⟨some 7, .nilchk (.t 6), none, []⟩,
  ⟨some 8, .fa (.t 7) 3, none, []⟩,
  ⟨some 9, .load 1 true (.t 8), none, []⟩,
  ⟨some 10, .call (.fn 113) [.t 9], none, []⟩,
  ⟨some 5, .mov (.t 10), none, []⟩] [6, 7, 8, 9, 10]
def R_choose_Count_Last_2 : AC := .ops false [⟨some 11, .mov (.t 5), none, []⟩,
  ⟨some 12, .nilchk (.t 11), none, []⟩,
  ⟨some 13, .fa (.t 12) 3, none, []⟩,
  ⟨some 14, .load 1 true (.t 13), none, []⟩,
  ⟨some 15, .call (.fn 272) [.t 14], none, []⟩] [11, 12, 13, 14, 15]
def R_choose_Count_Last_3 : AC := .ops false [⟨some 16, .mov (.t 0), none, []⟩,
  ⟨some 17, .mov (.t 1), none, []⟩,
  ⟨some 18, .mov (.t 5), none, []⟩,
  ⟨some 19, .mov (.t 1), none, []⟩,
  ⟨some 20, .call (.fn 192) [.t 18, .t 19], none, []⟩,
  ⟨some 21, .call (.fn 191) [.t 16, .t 17, .t 20], none, []⟩,
  ⟨some 4, .mov (.t 21), none, []⟩] [0, 1, 5, 16, 17, 18, 19, 20, 21]
def F_choose_Count_Last : AFunc := { ntmps := 22, nargs := 2, kills := [[4], [6, 7, 8, 9, 10], [11, 12, 13, 14, 15], [0, 1, 5, 16, 17, 18, 19, 20, 21]], results := [.t 4], body := (.seq R_choose_Count_Last_0 (.seq R_choose_Count_Last_1 (.seq R_choose_Count_Last_2 (.seq R_choose_Count_Last_3 .ret)))) }
abbrev k_choose_Count_Last : Nat := 200
-- suffrage/choose.Least
def R_choose_Least_0 : AC := .ops false [⟨some 3, .box (.t 1), none, []⟩,
  ⟨some 4, .mov (.c (.lst 0 [] (some 0))), none, []⟩] [1, 4]
def R_choose_Least_1 : AC := .ops false [⟨some 5, .mov (.t 0), none, []⟩,
  ⟨some 6, .mkfn 273 [] [.t 3], none, []⟩,
  ⟨some 7, .call (.fn 115) [.t 5, .t 6], none, []⟩,
  ⟨some 4, .mov (.t 7), none, []⟩] [0, 3, 5, 6, 7]
def F_choose_Least : AFunc := { ntmps := 8, nargs := 2, kills := [[1, 4], [0, 3, 5, 6, 7]], results := [.t 4], body := (.seq R_choose_Least_0 (.seq R_choose_Least_1 .ret)) }
abbrev k_choose_Least : Nat := 201
-- (*suffrage/runoff.count).round$3
def R_runoff_count_round_3_0 : AC := .ops false [⟨some 3, .mov (.c (.int .i64 0)), none, []⟩] [3]
def R_runoff_count_round_3_1 : AC := .ops false [⟨some 4, .load 1 true (.t 1), none, []⟩,
  ⟨some 5, .mov (.t 0), none, []⟩,
  ⟨some 6, .ia 1 (.t 4) (.t 5), none, []⟩,
  ⟨some 7, .load 1 true (.t 6), none, []⟩,
  ⟨some 3, .mov (.t 7), none, []⟩] [0, 1, 4, 5, 6, 7]
def F_runoff_count_round_3 : AFunc := { ntmps := 8, nargs := 2, kills := [[3], [0, 1, 4, 5, 6, 7]], results := [.t 3], body := (.seq R_runoff_count_round_3_0 (.seq R_runoff_count_round_3_1 .ret)) }
abbrev k_runoff_count_round_3 : Nat := 202
-- (*suffrage/runoff.count).round$4
def R_runoff_count_round_4_0 : AC := .ops false [⟨some 3, .mov (.c (.bool false)), none, []⟩] [3]
def R_runoff_count_round_4_1 : AC := .ops false [⟨some 4, .mov (.t 0), none, []⟩,
  ⟨some 5, .load 1 true (.t 1), none, []⟩,
  ⟨some 6, .bin .eql (.t 4) (.t 5), none, []⟩,
  ⟨some 3, .mov (.t 6), none, []⟩] [0, 1, 4, 5, 6]
def F_runoff_count_round_4 : AFunc := { ntmps := 7, nargs := 2, kills := [[3], [0, 1, 4, 5, 6]], results := [.t 3], body := (.seq R_runoff_count_round_4_0 (.seq R_runoff_count_round_4_1 .ret)) }
abbrev k_runoff_count_round_4 : Nat := 203
-- suffrage/runoff.Firsts
def R_runoff_Firsts_0 : AC := .ops false [⟨some 2, .box (.t 0), none, []⟩,
  ⟨some 3, .box (.t 1), none, []⟩,
  ⟨some 4, .mov (.c (.lst 0 [] (some 0))), none, []⟩,
  ⟨some 5, .mov (.c (.int .i64 0)), none, []⟩,
  ⟨some 6, .mov (.c (.int .i64 0)), none, []⟩] [0, 1, 4, 5, 6]
def R_runoff_Firsts_1 : AC := .ops false [⟨some 7, .load 3 false (.t 2), none, []⟩,
  ⟨some 8, .call (.fn 19) [.t 7], none, []⟩,
  ⟨some 9, .bin .neq (.t 8) (.c (.int .i64 0)), none, []⟩,
  ⟨some 10, .mov (.t 9), none, []⟩,
  ⟨some 11, .fa (.t 2) 1, some (10, false), []⟩,
  ⟨some 12, .load 1 true (.t 11), some (10, false), []⟩,
  ⟨some 13, .bin .neq (.t 12) (.c (.int .u8 1)), some (10, false), []⟩,
  ⟨some 14, .pick (.t 10) (.c (.bool true)) (.t 13), none, []⟩] [7, 8, 9, 10, 11, 12, 13]
def R_runoff_Firsts_2 : AC := .ops false [⟨some 4, .mov (.c (.lst 0 [] (some 0))), none, []⟩,
  ⟨some 5, .mov (.c (.int .i64 0)), none, []⟩,
  ⟨some 6, .mov (.c (.int .i64 8)), none, []⟩] [2, 3, 14]
def R_runoff_Firsts_3 : AC := .ops false [⟨some 16, .load 3 false (.t 2), none, []⟩,
  ⟨some 17, .mkfn 274 [] [.t 3], none, []⟩,
  ⟨some 18, .call (.fn 196) [.t 16, .t 17], none, []⟩,
  ⟨some 15, .mov (.t 18), none, []⟩,
  ⟨some 19, .ext (.t 15) 0, none, []⟩,
  ⟨some 20, .ext (.t 15) 1, none, []⟩,
  ⟨some 4, .mov (.t 19), none, []⟩,
  ⟨some 5, .mov (.t 20), none, []⟩] [2, 3, 14, 15, 16, 17, 18, 19, 20]
def R_runoff_Firsts_4 : AC := .ops false [⟨some 21, .mov (.t 4), none, []⟩,
  ⟨some 22, .mov (.t 5), none, []⟩,
  ⟨some 4, .mov (.t 21), none, []⟩,
  ⟨some 5, .mov (.t 22), none, []⟩,
  ⟨some 6, .mov (.c (.int .i64 0)), none, []⟩] [21, 22]
def F_runoff_Firsts : AFunc := { ntmps := 23, nargs := 2, kills := [[0, 1, 4, 5, 6], [7, 8, 9, 10, 11, 12, 13], [2, 3, 14], [2, 3, 14, 15, 16, 17, 18, 19, 20], [21, 22]], results := [.t 4, .t 5, .t 6], body := (.seq R_runoff_Firsts_0 (.seq (.seq R_runoff_Firsts_1 (.cond (.t 14) (.seq R_runoff_Firsts_2 .ret) .skip)) (.seq R_runoff_Firsts_3 (.seq R_runoff_Firsts_4 .ret)))) }
abbrev k_runoff_Firsts : Nat := 204
-- suffrage/coombs.rounds$1
def R_coombs_rounds_1_0 : AC := .ops false [⟨some 3, .mov (.c (.bool false)), none, []⟩] [3]
def R_coombs_rounds_1_1 : AC := .ops false [⟨some 4, .mov (.t 0), none, []⟩,
  ⟨some 5, .load 1 true (.t 1), none, []⟩,
  ⟨some 6, .bin .eql (.t 4) (.t 5), none, []⟩,
  ⟨some 3, .mov (.t 6), none, []⟩] [0, 1, 4, 5, 6]
def F_coombs_rounds_1 : AFunc := { ntmps := 7, nargs := 2, kills := [[3], [0, 1, 4, 5, 6]], results := [.t 3], body := (.seq R_coombs_rounds_1_0 (.seq R_coombs_rounds_1_1 .ret)) }
abbrev k_coombs_rounds_1 : Nat := 205
-- suffrage/quota.Droop
def R_quota_Droop_0 : AC := .ops false [⟨some 4, .mov (.c (.int .i64 0)), none, []⟩,
  ⟨some 5, .mov (.c (.int .i64 0)), none, []⟩] [4, 5]
def R_quota_Droop_1 : AC := .ops false [⟨some 6, .mov (.t 0), none, []⟩,
  ⟨some 7, .mov (.t 1), none, []⟩,
  ⟨some 8, .call (.fn 275) [.t 6, .t 7], none, []⟩,
  ⟨some 9, .un .not (.t 8), none, []⟩] [6, 7, 8]
def R_quota_Droop_2 : AC := .ops false [⟨some 4, .mov (.c (.int .i64 0)), none, []⟩,
  ⟨some 5, .mov (.c (.int .i64 2)), none, []⟩] [0, 1, 9]
def R_quota_Droop_3 : AC := .ops false [⟨some 10, .mov (.t 0), none, []⟩,
  ⟨some 11, .mov (.t 1), none, []⟩,
  ⟨some 12, .bin .add (.t 11) (.c (.int .i64 1)), none, []⟩,
  ⟨some 13, .bin .quo (.t 10) (.t 12), none, []⟩,
  ⟨some 14, .bin .add (.t 13) (.c (.int .i64 1)), none, []⟩,
  ⟨some 4, .mov (.t 14), none, []⟩,
  ⟨some 5, .mov (.c (.int .i64 0)), none, []⟩] [0, 1, 9, 10, 11, 12, 13, 14]
def F_quota_Droop : AFunc := { ntmps := 15, nargs := 2, kills := [[4, 5], [6, 7, 8], [0, 1, 9], [0, 1, 9, 10, 11, 12, 13, 14]], results := [.t 4, .t 5], body := (.seq R_quota_Droop_0 (.seq (.seq R_quota_Droop_1 (.cond (.t 9) (.seq R_quota_Droop_2 .ret) .skip)) (.seq R_quota_Droop_3 .ret))) }
abbrev k_quota_Droop : Nat := 206
-- suffrage/profile.count
def R_profile_count_0 : AC := .ops false [⟨some 2, .box (.t 0), none, []⟩,
  ⟨some 4, .mov (.c (.int .i64 0)), none, []⟩,
  ⟨some 5, .mov (.c (.int .i64 0)), none, []⟩] [0, 5]
def R_profile_count_1 : AC := .ops false [⟨some 8, .load 3 false (.t 2), none, []⟩,
  ⟨some 9, .call (.fn 19) [.t 8], none, []⟩,
  ⟨some 5, .mov (.t 9), none, []⟩] [8, 9]
def R_profile_count_2 : AC := .ops false [⟨some 10, .mov (.t 5), none, []⟩,
  ⟨some 11, .bin .neq (.t 10) (.c (.int .i64 0)), none, []⟩] [10]
def R_profile_count_3 : AC := .ops false [⟨some 12, .mov (.t 5), none, []⟩,
  ⟨some 4, .mov (.c (.int .i64 0)), none, []⟩,
  ⟨some 5, .mov (.t 12), none, []⟩] [1, 2, 11, 12]
def R_profile_count_4 : AC := .ops false [⟨some 13, .fa (.t 2) 2, none, []⟩,
  ⟨some 14, .load 1 true (.t 13), none, []⟩,
  ⟨some 15, .len (.t 14), none, []⟩,
  ⟨some 16, .mov (.c (.int .i64 0)), none, []⟩] [2, 5, 11, 13]
def R_profile_count_5 : AC := .ops false [⟨some 17, .bin .lss (.t 16) (.t 15), none, []⟩] []
def R_profile_count_6 : AC := .ops false [⟨some 18, .ia 2 (.t 14) (.t 16), none, []⟩,
  ⟨some 19, .load 2 false (.t 18), none, []⟩,
  ⟨some 7, .alloc [.lst 0 [] (some 0), .int .i64 0], none, []⟩,
  ⟨none, .store 2 (.t 7) (.t 19), none, []⟩] [17, 18, 19]
def R_profile_count_7 : AC := .ops false [⟨some 20, .mov (.t 1), none, []⟩,
  ⟨some 21, .load 2 false (.t 7), none, []⟩,
  ⟨some 22, .call (.dyn (.t 20)) [.t 21], none, []⟩] [20, 21]
def R_profile_count_8 : AC := .ops false [⟨some 23, .mov (.t 4), none, []⟩,
  ⟨some 24, .fa (.t 7) 1, none, []⟩,
  ⟨some 25, .load 1 true (.t 24), none, []⟩,
  ⟨some 26, .bin .add (.t 23) (.t 25), none, []⟩,
  ⟨some 4, .mov (.t 26), none, []⟩] [7, 22, 23, 24, 25, 26]
def R_profile_count_9 : AC := .ops false [⟨some 27, .bin .add (.t 16) (.c (.int .i64 1)), none, []⟩,
  ⟨some 16, .mov (.t 27), none, []⟩] [7, 22, 27]
def L_profile_count_1 : AC := (.seq R_profile_count_5 (.seq (.cond (.t 17) .skip (.exit 0)) (.seq (.block 1 (.seq R_profile_count_6 (.seq R_profile_count_7 (.cond (.t 22) R_profile_count_8 .skip)))) R_profile_count_9)))
def R_profile_count_10 : AC := .ops false [⟨some 28, .mov (.t 4), none, []⟩,
  ⟨some 4, .mov (.t 28), none, []⟩,
  ⟨some 5, .mov (.c (.int .i64 0)), none, []⟩] [1, 14, 15, 16, 17, 28]
def F_profile_count : AFunc := { ntmps := 29, nargs := 2, kills := [[0, 5], [8, 9], [10], [1, 2, 11, 12], [2, 5, 11, 13], [], [17, 18, 19], [20, 21], [7, 22, 23, 24, 25, 26], [7, 22, 27], [1, 14, 15, 16, 17, 28]], results := [.t 4, .t 5], body := (.seq R_profile_count_0 (.seq (.seq R_profile_count_1 (.seq R_profile_count_2 (.cond (.t 11) (.seq R_profile_count_3 .ret) .skip))) (.seq (.seq R_profile_count_4 (.block 0 (.loop L_profile_count_1))) (.seq R_profile_count_10 .ret)))) }
abbrev k_profile_count : Nat := 207
-- suffrage/profile.Marked$1
def R_profile_Marked_1_0 : AC := .ops false [⟨some 1, .box (.t 0), none, []⟩,
  ⟨some 2, .mov (.c (.bool false)), none, []⟩] [0, 2]
def R_profile_Marked_1_1 : AC := .ops false [⟨some 3, .fa (.t 1) 0, none, []⟩,
  ⟨some 4, .load 1 true (.t 3), none, []⟩,
  ⟨some 5, .len (.t 4), none, []⟩,
  ⟨some 6, .bin .gtr (.t 5) (.c (.int .i64 0)), none, []⟩,
  ⟨some 2, .mov (.t 6), none, []⟩] [1, 3, 4, 5, 6]
def F_profile_Marked_1 : AFunc := { ntmps := 7, nargs := 1, kills := [[0, 2], [1, 3, 4, 5, 6]], results := [.t 2], body := (.seq R_profile_Marked_1_0 (.seq R_profile_Marked_1_1 .ret)) }
abbrev k_profile_Marked_1 : Nat := 208
-- (*suffrage/gregory.count).had
def R_gregory_count_had_0 : AC := .ops false [⟨some 2, .mov (.c (.lst 0 [] (some 0))), none, []⟩,
  ⟨some 3, .mov (.c (.int .i64 0)), none, []⟩] [2, 3]
def R_gregory_count_had_1 : AC := .ops false [⟨some 10, .mov (.t 0), none, []⟩,
  ⟨some 11, .nilchk (.t 10), none, []⟩,
  ⟨some 12, .fa (.t 11) 2, none, []⟩,
  ⟨some 13, .load 1 true (.t 12), none, []⟩,
  ⟨some 14, .len (.t 13), none, []⟩,
  ⟨some 15, .mkslice 1 8 [.int .i64 0] (.t 14) (.t 14), none, []⟩,
  ⟨some 2, .mov (.t 15), none, []⟩] [10, 11, 12, 13, 14, 15]
def R_gregory_count_had_2 : AC := .ops false [⟨some 16, .mov (.t 0), none, []⟩,
  ⟨some 17, .nilchk (.t 16), none, []⟩,
  ⟨some 18, .fa (.t 17) 1, none, []⟩,
  ⟨some 19, .load 1 true (.t 18), none, []⟩,
  ⟨some 20, .len (.t 19), none, []⟩,
  ⟨some 21, .mov (.c (.int .i64 0)), none, []⟩] [16, 17, 18]
def R_gregory_count_had_3 : AC := .ops false [⟨some 22, .bin .lss (.t 21) (.t 20), none, []⟩] []
def R_gregory_count_had_4 : AC := .ops false [⟨some 23, .ia 3 (.t 19) (.t 21), none, []⟩,
  ⟨some 24, .load 3 false (.t 23), none, []⟩,
  ⟨some 5, .alloc [.lst 0 [] (some 0), .int .i64 0, .int .i64 0], none, []⟩,
  ⟨none, .store 3 (.t 5) (.t 24), none, []⟩] [22, 23, 24]
def R_gregory_count_had_5 : AC := .ops false [⟨some 26, .mov (.t 0), none, []⟩,
  ⟨some 27, .load 3 false (.t 5), none, []⟩,
  ⟨some 28, .call (.fn 276) [.t 26, .t 27], none, []⟩,
  ⟨some 25, .mov (.t 28), none, []⟩,
  ⟨some 29, .ext (.t 25) 0, none, []⟩,
  ⟨some 30, .ext (.t 25) 1, none, []⟩,
  ⟨some 6, .mov (.t 29), none, []⟩,
  ⟨some 7, .mov (.t 30), none, []⟩] [25, 26, 27, 28, 29, 30]
def R_gregory_count_had_6 : AC := .ops false [⟨some 31, .mov (.t 7), none, []⟩] [7]
def R_gregory_count_had_7 : AC := .ops true [⟨some 32, .mov (.t 2), none, []⟩,
  ⟨some 33, .mov (.t 6), none, []⟩,
  ⟨some 34, .ia 1 (.t 32) (.t 33), none, [0, 1]⟩,
  ⟨some 35, .load 1 true (.t 34), none, [2]⟩,
  ⟨some 36, .fa (.t 5) 1, none, []⟩,
  ⟨some 37, .load 1 true (.t 36), none, [4]⟩,
  ⟨some 38, .fa (.t 5) 2, none, []⟩,
  ⟨some 39, .load 1 true (.t 38), none, [6]⟩,
  ⟨some 40, .bin .mul (.t 37) (.t 39), none, [5, 7]⟩,
  ⟨some 41, .bin .add (.t 35) (.t 40), none, [3, 8]⟩,
  ⟨some 42, .ia 1 (.t 32) (.t 33), none, [0, 1, 0, 1, 2, 3, 4, 5, 6, 7, 8, 9]⟩,
  ⟨none, .store 1 (.t 42) (.t 41), none, [10, 9, 0, 1, 2, 3, 4, 5, 6, 7, 8, 9]⟩] [5, 6, 31, 32, 33, 34, 35, 36, 37, 38, 39, 40, 41, 42]
def R_gregory_count_had_8 : AC := .ops false [⟨some 43, .bin .add (.t 21) (.c (.int .i64 1)), none, []⟩,
  ⟨some 21, .mov (.t 43), none, []⟩] [5, 6, 31, 43]
def L_gregory_count_had_1 : AC := (.seq R_gregory_count_had_3 (.seq (.cond (.t 22) .skip (.exit 0)) (.seq (.block 1 (.seq R_gregory_count_had_4 (.seq R_gregory_count_had_5 (.seq R_gregory_count_had_6 (.cond (.t 31) R_gregory_count_had_7 .skip))))) R_gregory_count_had_8)))
def R_gregory_count_had_9 : AC := .ops false [⟨some 44, .mov (.t 0), none, []⟩,
  ⟨some 45, .nilchk (.t 44), none, []⟩,
  ⟨some 46, .fa (.t 45) 5, none, []⟩,
  ⟨some 47, .load 1 true (.t 46), none, []⟩,
  ⟨some 48, .bin .mul (.t 47) (.c (.int .i64 1000000000)), none, []⟩,
  ⟨some 3, .mov (.t 48), none, []⟩] [19, 20, 21, 22, 44, 45, 46, 47, 48]
def R_gregory_count_had_10 : AC := .ops false [⟨some 49, .mov (.t 0), none, []⟩,
  ⟨some 50, .nilchk (.t 49), none, []⟩,
  ⟨some 51, .fa (.t 50) 2, none, []⟩,
  ⟨some 52, .load 1 true (.t 51), none, []⟩,
  ⟨some 53, .len (.t 52), none, []⟩,
  ⟨some 54, .mov (.c (.int .i64 0)), none, []⟩] [49, 50, 51]
def R_gregory_count_had_11 : AC := .ops false [⟨some 55, .bin .lss (.t 54) (.t 53), none, []⟩] []
def R_gregory_count_had_12 : AC := .ops false [⟨some 56, .mov (.t 54), none, []⟩,
  ⟨some 57, .ia 1 (.t 52) (.t 54), none, []⟩,
  ⟨some 58, .load 1 true (.t 57), none, []⟩,
  ⟨some 8, .mov (.t 56), none, []⟩,
  ⟨some 9, .mov (.t 58), none, []⟩] [55, 56, 57, 58]
def R_gregory_count_had_13 : AC := .ops true [⟨some 59, .mov (.t 2), none, []⟩,
  ⟨some 60, .mov (.t 8), none, []⟩,
  ⟨some 61, .mov (.t 9), none, []⟩,
  ⟨some 62, .mov (.t 2), none, []⟩,
  ⟨some 63, .mov (.t 8), none, []⟩,
  ⟨some 64, .ia 1 (.t 62) (.t 63), none, [3, 4]⟩,
  ⟨some 65, .load 1 true (.t 64), none, [5]⟩,
  ⟨some 66, .mov (.t 0), none, []⟩,
  ⟨some 67, .nilchk (.t 66), none, [7]⟩,
  ⟨some 68, .fa (.t 67) 4, none, [8]⟩,
  ⟨some 69, .load 1 true (.t 68), none, [9]⟩,
  ⟨some 70, .no, none, [2]⟩,
  ⟨some 71, .nilchk (.t 70), none, [11]⟩,
  ⟨some 72, .mov (.t 61), none, [2, 11, 12]⟩,
  ⟨some 73, .call (.meth (.t 72) [(212, 360), (295, 362)]) [.t 65, .t 69], none, [13, 6, 10]⟩,
  ⟨some 74, .ia 1 (.t 59) (.t 60), none, [0, 1, 0, 1, 2, 3, 4, 5, 6, 7, 8, 9, 10, 11, 12, 13, 14]⟩,
  ⟨none, .store 1 (.t 74) (.t 73), none, [15, 14, 14, 0, 1, 2, 3, 4, 5, 6, 7, 8, 9, 10, 11, 12, 13, 14]⟩] [9, 59, 60, 61, 62, 63, 64, 65, 66, 67, 68, 69, 70, 71, 72, 73, 74]
def R_gregory_count_had_14 : AC := .ops false [⟨some 75, .mov (.t 3), none, []⟩,
  ⟨some 76, .mov (.t 2), none, []⟩,
  ⟨some 77, .mov (.t 8), none, []⟩,
  ⟨some 78, .ia 1 (.t 76) (.t 77), none, []⟩,
  ⟨some 79, .load 1 true (.t 78), none, []⟩,
  ⟨some 80, .bin .sub (.t 75) (.t 79), none, []⟩,
  ⟨some 3, .mov (.t 80), none, []⟩] [8, 75, 76, 77, 78, 79, 80]
def R_gregory_count_had_15 : AC := .ops false [⟨some 81, .bin .add (.t 54) (.c (.int .i64 1)), none, []⟩,
  ⟨some 54, .mov (.t 81), none, []⟩] [81]
def L_gregory_count_had_2 : AC := (.seq R_gregory_count_had_11 (.seq (.cond (.t 55) .skip (.exit 2)) (.seq (.block 3 (.seq R_gregory_count_had_12 (.seq R_gregory_count_had_13 R_gregory_count_had_14))) R_gregory_count_had_15)))
def R_gregory_count_had_16 : AC := .ops false [⟨some 82, .mov (.t 2), none, []⟩,
  ⟨some 83, .mov (.t 3), none, []⟩,
  ⟨some 84, .max [.t 83, .c (.int .i64 0)], none, []⟩,
  ⟨some 2, .mov (.t 82), none, []⟩,
  ⟨some 3, .mov (.t 84), none, []⟩] [0, 52, 53, 54, 55, 82, 83, 84]
def F_gregory_count_had : AFunc := { ntmps := 85, nargs := 1, kills := [[2, 3], [10, 11, 12, 13, 14, 15], [16, 17, 18], [], [22, 23, 24], [25, 26, 27, 28, 29, 30], [7], [5, 6, 31, 32, 33, 34, 35, 36, 37, 38, 39, 40, 41, 42], [5, 6, 31, 43], [19, 20, 21, 22, 44, 45, 46, 47, 48], [49, 50, 51], [], [55, 56, 57, 58], [9, 59, 60, 61, 62, 63, 64, 65, 66, 67, 68, 69, 70, 71, 72, 73, 74], [8, 75, 76, 77, 78, 79, 80], [81], [0, 52, 53, 54, 55, 82, 83, 84]], results := [.t 2, .t 3], body := (.seq R_gregory_count_had_0 (.seq R_gregory_count_had_1 (.seq (.seq R_gregory_count_had_2 (.block 0 (.loop L_gregory_count_had_1))) (.seq R_gregory_count_had_9 (.seq (.seq R_gregory_count_had_10 (.block 2 (.loop L_gregory_count_had_2))) (.seq R_gregory_count_had_16 .ret)))))) }
abbrev k_gregory_count_had : Nat := 209
-- (*suffrage/gregory.count).round$1
def R_gregory_count_round_1_0 : AC := .ops false [⟨some 3, .mov (.c (.int .i64 0)), none, []⟩] [3]
def R_gregory_count_round_1_1 : AC := .ops false [⟨some 4, .load 1 true (.t 1), none, []⟩,
  ⟨some 5, .mov (.t 0), none, []⟩,
  ⟨some 6, .ia 1 (.t 4) (.t 5), none, []⟩,
  ⟨some 7, .load 1 true (.t 6), none, []⟩,
  ⟨some 3, .mov (.t 7), none, []⟩] [0, 1, 4, 5, 6, 7]
def F_gregory_count_round_1 : AFunc := { ntmps := 8, nargs := 2, kills := [[3], [0, 1, 4, 5, 6, 7]], results := [.t 3], body := (.seq R_gregory_count_round_1_0 (.seq R_gregory_count_round_1_1 .ret)) }
abbrev k_gregory_count_round_1 : Nat := 210
-- (*suffrage/gregory.count).in
def R_gregory_count_in_0 : AC := .ops false [⟨some 2, .mov (.c (.lst 0 [] (some 0))), none, []⟩] []
def R_gregory_count_in_1 : AC := .ops false [⟨some 5, .mov (.t 0), none, []⟩,
  ⟨some 6, .nilchk (.t 5), none, []⟩,
  ⟨some 7, .fa (.t 6) 2, none, []⟩,
  ⟨some 8, .load 1 true (.t 7), none, []⟩,
  ⟨some 9, .len (.t 8), none, []⟩,
  ⟨some 10, .mov (.c (.int .i64 0)), none, []⟩] [0, 5, 6, 7]
def R_gregory_count_in_2 : AC := .ops false [⟨some 11, .bin .lss (.t 10) (.t 9), none, []⟩] []
def R_gregory_count_in_3 : AC := .ops false [⟨some 12, .mov (.t 10), none, []⟩,
  ⟨some 13, .ia 1 (.t 8) (.t 10), none, []⟩,
  ⟨some 14, .load 1 true (.t 13), none, []⟩,
  ⟨some 3, .mov (.t 12), none, []⟩,
  ⟨some 4, .mov (.t 14), none, []⟩] [11, 12, 13, 14]
def R_gregory_count_in_4 : AC := .ops false [⟨some 15, .mov (.t 4), none, []⟩,
  ⟨some 16, .call (.meth (.t 15) [(203, 211), (212, 361), (295, 363)]) [], none, []⟩] [4, 15]
def R_gregory_count_in_5 : AC := .ops false [⟨some 17, .mov (.t 2), none, []⟩,
  ⟨some 18, .mov (.t 3), none, []⟩,
  ⟨some 19, .bslice 1 [.int .i64 0] 1 [(0, .t 18)], none, []⟩,
  ⟨some 20, .append 1 8 (.t 17) (.t 19), none, []⟩,
  ⟨some 2, .mov (.t 20), none, []⟩] [3, 16, 17, 18, 19, 20]
def R_gregory_count_in_6 : AC := .ops false [⟨some 21, .bin .add (.t 10) (.c (.int .i64 1)), none, []⟩,
  ⟨some 10, .mov (.t 21), none, []⟩] [3, 16, 21]
def L_gregory_count_in_1 : AC := (.seq R_gregory_count_in_2 (.seq (.cond (.t 11) .skip (.exit 0)) (.seq (.block 1 (.seq R_gregory_count_in_3 (.seq R_gregory_count_in_4 (.cond (.t 16) R_gregory_count_in_5 .skip)))) R_gregory_count_in_6)))
def R_gregory_count_in_7 : AC := .ops false [⟨some 22, .mov (.t 2), none, []⟩,
  ⟨some 2, .mov (.t 22), none, []⟩] [8, 9, 10, 11, 22]
def F_gregory_count_in : AFunc := { ntmps := 23, nargs := 1, kills := [[], [0, 5, 6, 7], [], [11, 12, 13, 14], [4, 15], [3, 16, 17, 18, 19, 20], [3, 16, 21], [8, 9, 10, 11, 22]], results := [.t 2], body := (.seq R_gregory_count_in_0 (.seq (.seq R_gregory_count_in_1 (.block 0 (.loop L_gregory_count_in_1))) (.seq R_gregory_count_in_7 .ret))) }
abbrev k_gregory_count_in : Nat := 211
-- suffrage/gregory.told
def R_gregory_told_0 : AC := .ops false [⟨some 2, .mov (.c (.lst 0 [] (some 0))), none, []⟩] []
def R_gregory_told_1 : AC := .ops false [⟨some 7, .mov (.t 0), none, []⟩,
  ⟨some 8, .len (.t 7), none, []⟩,
  ⟨some 9, .mov (.c (.int .i64 0)), none, []⟩] [0]
def R_gregory_told_2 : AC := .ops false [⟨some 10, .bin .lss (.t 9) (.t 8), none, []⟩] []
def R_gregory_told_3 : AC := .ops false [⟨some 11, .ia 1 (.t 7) (.t 9), none, []⟩,
  ⟨some 12, .load 1 true (.t 11), none, []⟩,
  ⟨some 4, .mov (.t 12), none, []⟩] [10, 11, 12]
def R_gregory_told_4 : AC := .ops false [⟨some 14, .mov (.t 4), none, []⟩,
  ⟨some 15, .call (.fn 223) [.t 14], none, []⟩,
  ⟨some 13, .mov (.t 15), none, []⟩,
  ⟨some 16, .ext (.t 13) 0, none, []⟩,
  ⟨some 17, .ext (.t 13) 1, none, []⟩,
  ⟨some 5, .alloc [.bool false, .lst 0 [] (some 0), .lst 0 [] (some 0)], none, []⟩,
  ⟨none, .store 3 (.t 5) (.t 16), none, []⟩,
  ⟨some 6, .mov (.t 17), none, []⟩] [4, 6, 13, 14, 15, 16, 17]
def R_gregory_told_5 : AC := .ops false [⟨some 18, .mov (.t 2), none, []⟩,
  ⟨some 19, .load 3 false (.t 5), none, []⟩,
  ⟨some 20, .bslice 3 [.bool false, .lst 0 [] (some 0), .lst 0 [] (some 0)] 1 [(0, .t 19)], none, []⟩,
  ⟨some 21, .append 3 56 (.t 18) (.t 20), none, []⟩,
  ⟨some 2, .mov (.t 21), none, []⟩] [5, 18, 19, 20, 21]
def R_gregory_told_6 : AC := .ops false [⟨some 22, .bin .add (.t 9) (.c (.int .i64 1)), none, []⟩,
  ⟨some 9, .mov (.t 22), none, []⟩] [22]
def L_gregory_told_1 : AC := (.seq R_gregory_told_2 (.seq (.cond (.t 10) .skip (.exit 0)) (.seq (.block 1 (.seq R_gregory_told_3 (.seq R_gregory_told_4 R_gregory_told_5))) R_gregory_told_6)))
def R_gregory_told_7 : AC := .ops false [⟨some 23, .mov (.t 2), none, []⟩,
  ⟨some 2, .mov (.t 23), none, []⟩] [7, 8, 9, 10, 23]
def F_gregory_told : AFunc := { ntmps := 24, nargs := 1, kills := [[], [0], [], [10, 11, 12], [4, 6, 13, 14, 15, 16, 17], [5, 18, 19, 20, 21], [22], [7, 8, 9, 10, 23]], results := [.t 2], body := (.seq R_gregory_told_0 (.seq (.seq R_gregory_told_1 (.block 0 (.loop L_gregory_told_1))) (.seq R_gregory_told_7 .ret))) }
abbrev k_gregory_told : Nat := 212
-- (*suffrage/gregory.count).elect
def R_gregory_count_elect_0 : AC := .ops false [⟨some 4, .mov (.t 0), none, []⟩,
  ⟨some 5, .nilchk (.t 4), none, []⟩,
  ⟨some 6, .fa (.t 5) 2, none, []⟩,
  ⟨some 7, .load 1 true (.t 6), none, []⟩,
  ⟨some 8, .mov (.t 1), none, []⟩,
  ⟨some 9, .build [.bool false] [(0, 1, .c (.bool true))], none, []⟩,
  ⟨some 10, .mkiface 295 (.t 9), none, []⟩,
  ⟨some 11, .ia 1 (.t 7) (.t 8), none, []⟩,
  ⟨none, .store 1 (.t 11) (.t 10), none, []⟩] [4, 5, 6, 7, 8, 9, 10, 11]
def R_gregory_count_elect_1 : AC := .ops true [⟨some 12, .mov (.t 0), none, []⟩,
  ⟨some 13, .nilchk (.t 12), none, [0]⟩,
  ⟨some 14, .fa (.t 13) 0, none, [1]⟩,
  ⟨some 15, .load 1 true (.t 14), none, [2]⟩,
  ⟨some 16, .mov (.t 0), none, []⟩,
  ⟨some 17, .nilchk (.t 16), none, [4]⟩,
  ⟨some 18, .fa (.t 17) 0, none, [5]⟩,
  ⟨some 19, .load 1 true (.t 18), none, [6]⟩,
  ⟨some 20, .nilchk (.t 19), none, [7]⟩,
  ⟨some 21, .fa (.t 20) 0, none, [8]⟩,
  ⟨some 22, .fa (.t 21) 0, none, [9]⟩,
  ⟨some 23, .load 1 true (.t 22), none, [10]⟩,
  ⟨some 24, .mov (.t 1), none, []⟩,
  ⟨some 25, .bslice 1 [.int .i64 0] 1 [(0, .t 24)], none, [12]⟩,
  ⟨some 26, .append 1 8 (.t 23) (.t 25), none, [11, 13]⟩,
  ⟨some 27, .nilchk (.t 15), none, [3, 0, 1, 2, 3, 4, 5, 6, 7, 8, 9, 10, 11, 12, 13, 14]⟩,
  ⟨some 28, .fa (.t 27) 0, none, [15, 0, 1, 2, 3, 4, 5, 6, 7, 8, 9, 10, 11, 12, 13, 14]⟩,
  ⟨some 29, .fa (.t 28) 0, none, [16, 0, 1, 2, 3, 4, 5, 6, 7, 8, 9, 10, 11, 12, 13, 14]⟩,
  ⟨none, .store 1 (.t 29) (.t 26), none, [17, 14, 14, 0, 1, 2, 3, 4, 5, 6, 7, 8, 9, 10, 11, 12, 13, 14]⟩] [0, 1, 12, 13, 14, 15, 16, 17, 18, 19, 20, 21, 22, 23, 24, 25, 26, 27, 28, 29]
def F_gregory_count_elect : AFunc := { ntmps := 30, nargs := 2, kills := [[4, 5, 6, 7, 8, 9, 10, 11], [0, 1, 12, 13, 14, 15, 16, 17, 18, 19, 20, 21, 22, 23, 24, 25, 26, 27, 28, 29]], results := [], body := (.seq R_gregory_count_elect_0 R_gregory_count_elect_1) }
abbrev k_gregory_count_elect : Nat := 213
-- (*suffrage/gregory.count).pass
def R_gregory_count_pass_0 : AC := .ops false [⟨some 10, .mov (.t 0), none, []⟩,
  ⟨some 11, .nilchk (.t 10), none, []⟩,
  ⟨some 12, .fa (.t 11) 1, none, []⟩,
  ⟨some 13, .load 1 true (.t 12), none, []⟩,
  ⟨some 14, .len (.t 13), none, []⟩,
  ⟨some 15, .mov (.c (.int .i64 0)), none, []⟩] [10, 11, 12]
def R_gregory_count_pass_1 : AC := .ops false [⟨some 16, .bin .lss (.t 15) (.t 14), none, []⟩] []
def R_gregory_count_pass_2 : AC := .ops false [⟨some 17, .mov (.t 15), none, []⟩,
  ⟨some 18, .ia 3 (.t 13) (.t 15), none, []⟩,
  ⟨some 19, .load 3 false (.t 18), none, []⟩,
  ⟨some 7, .alloc [.lst 0 [] (some 0), .int .i64 0, .int .i64 0], none, []⟩,
  ⟨some 6, .mov (.t 17), none, []⟩,
  ⟨none, .store 3 (.t 7) (.t 19), none, []⟩] [16, 17, 18, 19]
def R_gregory_count_pass_3 : AC := .ops false [⟨some 21, .mov (.t 0), none, []⟩,
  ⟨some 22, .load 3 false (.t 7), none, []⟩,
  ⟨some 23, .call (.fn 276) [.t 21, .t 22], none, []⟩,
  ⟨some 20, .mov (.t 23), none, []⟩,
  ⟨some 24, .ext (.t 20) 0, none, []⟩,
  ⟨some 25, .ext (.t 20) 1, none, []⟩,
  ⟨some 8, .mov (.t 24), none, []⟩,
  ⟨some 9, .mov (.t 25), none, []⟩] [20, 21, 22, 23, 24, 25]
def R_gregory_count_pass_4 : AC := .ops false [⟨some 26, .mov (.t 9), none, []⟩,
  ⟨some 27, .mov (.t 26), none, []⟩,
  ⟨some 28, .mov (.t 8), some (27, true), []⟩,
  ⟨some 29, .mov (.t 1), some (27, true), []⟩,
  ⟨some 30, .bin .eql (.t 28) (.t 29), some (27, true), []⟩,
  ⟨some 31, .pick (.t 27) (.t 30) (.c (.bool false)), none, []⟩] [8, 9, 26, 27, 28, 29, 30]
def R_gregory_count_pass_5 : AC := .ops true [⟨some 33, .mov (.t 0), none, []⟩,
  ⟨some 34, .nilchk (.t 33), none, [0]⟩,
  ⟨some 35, .fa (.t 34) 1, none, [1]⟩,
  ⟨some 36, .load 1 true (.t 35), none, [2]⟩,
  ⟨some 37, .mov (.t 6), none, []⟩,
  ⟨some 38, .fa (.t 7) 2, none, []⟩,
  ⟨some 39, .load 1 true (.t 38), none, [5]⟩,
  ⟨some 40, .mov (.t 2), none, []⟩,
  ⟨some 41, .mov (.t 0), none, []⟩,
  ⟨some 42, .nilchk (.t 41), none, [8]⟩,
  ⟨some 43, .fa (.t 42) 4, none, [9]⟩,
  ⟨some 44, .load 1 true (.t 43), none, [10]⟩,
  ⟨some 45, .call (.fn 277) [.t 39, .t 40, .t 44], none, [6, 7, 11]⟩,
  ⟨some 32, .mov (.t 45), none, [12]⟩,
  ⟨some 46, .ext (.t 32) 0, none, [13]⟩,
  ⟨some 47, .ext (.t 32) 1, none, [13]⟩,
  ⟨some 48, .ia 3 (.t 36) (.t 37), none, [3, 4, 0, 1, 2, 3, 4, 5, 6, 7, 8, 9, 10, 11, 12, 13, 14]⟩,
  ⟨some 49, .fa (.t 48) 2, none, [16, 0, 1, 2, 3, 4, 5, 6, 7, 8, 9, 10, 11, 12, 13, 14]⟩,
  ⟨none, .store 1 (.t 49) (.t 46), none, [17, 14, 12, 0, 1, 2, 3, 4, 5, 6, 7, 8, 9, 10, 11, 12, 13, 14]⟩] [6, 7, 31, 32, 33, 34, 35, 36, 37, 38, 39, 40, 41, 42, 43, 44, 45, 46, 47, 48, 49]
def R_gregory_count_pass_6 : AC := .ops false [⟨some 50, .bin .add (.t 15) (.c (.int .i64 1)), none, []⟩,
  ⟨some 15, .mov (.t 50), none, []⟩] [6, 7, 31, 50]
def L_gregory_count_pass_1 : AC := (.seq R_gregory_count_pass_1 (.seq (.cond (.t 16) .skip (.exit 0)) (.seq (.block 1 (.seq R_gregory_count_pass_2 (.seq R_gregory_count_pass_3 (.seq R_gregory_count_pass_4 (.cond (.t 31) R_gregory_count_pass_5 .skip))))) R_gregory_count_pass_6)))
def F_gregory_count_pass : AFunc := { ntmps := 51, nargs := 3, kills := [[10, 11, 12], [], [16, 17, 18, 19], [20, 21, 22, 23, 24, 25], [8, 9, 26, 27, 28, 29, 30], [6, 7, 31, 32, 33, 34, 35, 36, 37, 38, 39, 40, 41, 42, 43, 44, 45, 46, 47, 48, 49], [6, 7, 31, 50]], results := [], body := (.seq R_gregory_count_pass_0 (.block 0 (.loop L_gregory_count_pass_1))) }
abbrev k_gregory_count_pass : Nat := 214
-- (*suffrage/meek.count).elect
def R_meek_count_elect_0 : AC := .ops false [⟨some 5, .mov (.t 0), none, []⟩,
  ⟨some 6, .nilchk (.t 5), none, []⟩,
  ⟨some 7, .fa (.t 6) 0, none, []⟩,
  ⟨some 8, .load 1 true (.t 7), none, []⟩,
  ⟨some 9, .mov (.t 1), none, []⟩,
  ⟨some 10, .call (.fn 114) [.t 8, .t 9], none, []⟩,
  ⟨some 4, .mov (.t 10), none, []⟩] [1, 5, 6, 7, 8, 9, 10]
def R_meek_count_elect_1 : AC := .ops true [⟨some 11, .mov (.t 0), none, []⟩,
  ⟨some 12, .nilchk (.t 11), none, [0]⟩,
  ⟨some 13, .fa (.t 12) 0, none, [1]⟩,
  ⟨some 14, .load 1 true (.t 13), none, [2]⟩,
  ⟨some 15, .mov (.t 0), none, []⟩,
  ⟨some 16, .nilchk (.t 15), none, [4]⟩,
  ⟨some 17, .fa (.t 16) 0, none, [5]⟩,
  ⟨some 18, .load 1 true (.t 17), none, [6]⟩,
  ⟨some 19, .nilchk (.t 18), none, [7]⟩,
  ⟨some 20, .fa (.t 19) 0, none, [8]⟩,
  ⟨some 21, .fa (.t 20) 0, none, [9]⟩,
  ⟨some 22, .load 1 true (.t 21), none, [10]⟩,
  ⟨some 23, .mov (.t 4), none, []⟩,
  ⟨some 24, .bslice 1 [.int .i64 0] 1 [(0, .t 23)], none, [12]⟩,
  ⟨some 25, .append 1 8 (.t 22) (.t 24), none, [11, 13]⟩,
  ⟨some 26, .nilchk (.t 14), none, [3, 0, 1, 2, 3, 4, 5, 6, 7, 8, 9, 10, 11, 12, 13, 14]⟩,
  ⟨some 27, .fa (.t 26) 0, none, [15, 0, 1, 2, 3, 4, 5, 6, 7, 8, 9, 10, 11, 12, 13, 14]⟩,
  ⟨some 28, .fa (.t 27) 0, none, [16, 0, 1, 2, 3, 4, 5, 6, 7, 8, 9, 10, 11, 12, 13, 14]⟩,
  ⟨none, .store 1 (.t 28) (.t 25), none, [17, 14, 14, 0, 1, 2, 3, 4, 5, 6, 7, 8, 9, 10, 11, 12, 13, 14]⟩] [11, 12, 13, 14, 15, 16, 17, 18, 19, 20, 21, 22, 23, 24, 25, 26, 27, 28]
def R_meek_count_elect_2 : AC := .ops false [⟨some 29, .mov (.t 0), none, []⟩,
  ⟨some 30, .mov (.t 0), none, []⟩,
  ⟨some 31, .nilchk (.t 30), none, []⟩,
  ⟨some 32, .fa (.t 31) 12, none, []⟩,
  ⟨some 33, .fa (.t 32) 4, none, []⟩,
  ⟨some 34, .load 1 true (.t 33), none, []⟩,
  ⟨some 35, .mov (.t 4), none, []⟩,
  ⟨some 36, .bslice 1 [.int .i64 0] 1 [(0, .t 35)], none, []⟩,
  ⟨some 37, .append 1 8 (.t 34) (.t 36), none, []⟩,
  ⟨some 38, .nilchk (.t 29), none, []⟩,
  ⟨some 39, .fa (.t 38) 12, none, []⟩,
  ⟨some 40, .fa (.t 39) 4, none, []⟩,
  ⟨none, .store 1 (.t 40) (.t 37), none, []⟩] [29, 30, 31, 32, 33, 34, 35, 36, 37, 38, 39, 40]
def R_meek_count_elect_3 : AC := .ops false [⟨some 41, .mov (.t 0), none, []⟩,
  ⟨some 42, .mov (.t 4), none, []⟩,
  ⟨some 43, .call (.fn 218) [.t 41, .t 42], none, []⟩] [0, 4, 41, 42, 43]
def F_meek_count_elect : AFunc := { ntmps := 44, nargs := 2, kills := [[1, 5, 6, 7, 8, 9, 10], [11, 12, 13, 14, 15, 16, 17, 18, 19, 20, 21, 22, 23, 24, 25, 26, 27, 28], [29, 30, 31, 32, 33, 34, 35, 36, 37, 38, 39, 40], [0, 4, 41, 42, 43]], results := [], body := (.seq R_meek_count_elect_0 (.seq R_meek_count_elect_1 (.seq R_meek_count_elect_2 R_meek_count_elect_3))) }
abbrev k_meek_count_elect : Nat := 215
-- (*suffrage/meek.count).has
def R_meek_count_has_0 : AC := .ops false [⟨some 4, .mov (.c (.int .i64 0)), none, []⟩] [4]
def R_meek_count_has_1 : AC := .ops false [⟨some 5, .mov (.t 0), none, []⟩,
  ⟨some 6, .nilchk (.t 5), none, []⟩,
  ⟨some 7, .fa (.t 6) 9, none, []⟩,
  ⟨some 8, .load 1 true (.t 7), none, []⟩,
  ⟨some 9, .mov (.t 1), none, []⟩,
  ⟨some 10, .ia 1 (.t 8) (.t 9), none, []⟩,
  ⟨some 11, .load 1 true (.t 10), none, []⟩,
  ⟨some 4, .mov (.t 11), none, []⟩] [0, 1, 5, 6, 7, 8, 9, 10, 11]
def F_meek_count_has : AFunc := { ntmps := 12, nargs := 2, kills := [[4], [0, 1, 5, 6, 7, 8, 9, 10, 11]], results := [.t 4], body := (.seq R_meek_count_has_0 (.seq R_meek_count_has_1 .ret)) }
abbrev k_meek_count_has : Nat := 216
-- (*suffrage/meek.count).drops$1
def R_meek_count_drops_1_0 : AC := .ops false [⟨some 3, .mov (.c (.bool false)), none, []⟩] [3]
def R_meek_count_drops_1_1 : AC := .ops true [⟨some 4, .load 1 true (.t 1), none, []⟩,
  ⟨some 5, .nilchk (.t 4), none, [0]⟩,
  ⟨some 6, .fa (.t 5) 9, none, [1]⟩,
  ⟨some 7, .load 1 true (.t 6), none, [2]⟩,
  ⟨some 8, .mov (.t 0), none, []⟩,
  ⟨some 9, .ia 1 (.t 7) (.t 8), none, [3, 4]⟩,
  ⟨some 10, .load 1 true (.t 9), none, [5]⟩,
  ⟨some 11, .load 1 true (.t 1), none, []⟩,
  ⟨some 12, .nilchk (.t 11), none, [7]⟩,
  ⟨some 13, .fa (.t 12) 11, none, [8]⟩,
  ⟨some 14, .load 1 true (.t 13), none, [9]⟩,
  ⟨some 15, .bin .add (.t 14) (.c (.int .i64 1000000)), none, [10]⟩,
  ⟨some 16, .bin .gtr (.t 10) (.t 15), none, [6, 11]⟩,
  ⟨some 3, .mov (.t 16), none, [12, 0, 1, 2, 3, 4, 5, 6, 7, 8, 9, 10, 11, 12]⟩] [0, 1, 4, 5, 6, 7, 8, 9, 10, 11, 12, 13, 14, 15, 16]
def F_meek_count_drops_1 : AFunc := { ntmps := 17, nargs := 2, kills := [[3], [0, 1, 4, 5, 6, 7, 8, 9, 10, 11, 12, 13, 14, 15, 16]], results := [.t 3], body := (.seq R_meek_count_drops_1_0 (.seq R_meek_count_drops_1_1 .ret)) }
abbrev k_meek_count_drops_1 : Nat := 217
-- (*suffrage/meek.count).leave
def R_meek_count_leave_0 : AC := .ops false [⟨some 3, .box (.t 1), none, []⟩] [1]
def R_meek_count_leave_1 : AC := .ops false [⟨some 4, .mov (.t 0), none, []⟩,
  ⟨some 5, .mov (.t 0), none, []⟩,
  ⟨some 6, .nilchk (.t 5), none, []⟩,
  ⟨some 7, .fa (.t 6) 7, none, []⟩,
  ⟨some 8, .load 1 true (.t 7), none, []⟩,
  ⟨some 9, .mkfn 278 [] [.t 3], none, []⟩,
  ⟨some 10, .call (.fn 121) [.t 8, .t 9], none, []⟩,
  ⟨some 11, .nilchk (.t 4), none, []⟩,
  ⟨some 12, .fa (.t 11) 7, none, []⟩,
  ⟨none, .store 1 (.t 12) (.t 10), none, []⟩] [0, 3, 4, 5, 6, 7, 8, 9, 10, 11, 12]
def F_meek_count_leave : AFunc := { ntmps := 13, nargs := 2, kills := [[1], [0, 3, 4, 5, 6, 7, 8, 9, 10, 11, 12]], results := [], body := (.seq R_meek_count_leave_0 R_meek_count_leave_1) }
abbrev k_meek_count_leave : Nat := 218
-- suffrage/meek.Keep
def R_meek_Keep_0 : AC := .ops false [⟨some 6, .mov (.c (.int .i64 0)), none, []⟩,
  ⟨some 7, .mov (.c (.int .i64 0)), none, []⟩] [6, 7]
def R_meek_Keep_1 : AC := .ops false [⟨some 10, .mov (.t 0), none, []⟩,
  ⟨some 11, .bin .lss (.t 10) (.c (.int .i64 0)), none, []⟩,
  ⟨some 12, .mov (.t 11), none, []⟩,
  ⟨some 13, .mov (.t 0), some (12, false), []⟩,
  ⟨some 14, .bin .gtr (.t 13) (.c (.int .i64 1000000000)), some (12, false), []⟩,
  ⟨some 15, .pick (.t 12) (.c (.bool true)) (.t 14), none, []⟩,
  ⟨some 16, .mov (.t 15), none, []⟩,
  ⟨some 17, .mov (.t 2), some (16, false), []⟩,
  ⟨some 18, .bin .lss (.t 17) (.c (.int .i64 0)), some (16, false), []⟩,
  ⟨some 19, .pick (.t 16) (.c (.bool true)) (.t 18), none, []⟩,
  ⟨some 20, .mov (.t 19), none, []⟩,
  ⟨some 21, .mov (.t 2), some (20, false), []⟩,
  ⟨some 22, .mov (.t 1), some (20, false), []⟩,
  ⟨some 23, .bin .gtr (.t 21) (.t 22), some (20, false), []⟩,
  ⟨some 24, .pick (.t 20) (.c (.bool true)) (.t 23), none, []⟩] [10, 11, 12, 13, 14, 15, 16, 17, 18, 19, 20, 21, 22, 23]
def R_meek_Keep_2 : AC := .ops false [⟨some 6, .mov (.c (.int .i64 0)), none, []⟩,
  ⟨some 7, .mov (.c (.int .i64 2)), none, []⟩] [0, 1, 2, 24]
def R_meek_Keep_3 : AC := .ops false [⟨some 26, .mov (.t 0), none, []⟩,
  ⟨some 27, .mov (.t 1), none, []⟩,
  ⟨some 28, .mov (.t 2), none, []⟩,
  ⟨some 29, .bin .sub (.t 27) (.t 28), none, []⟩,
  ⟨some 30, .mov (.t 1), none, []⟩,
  ⟨some 31, .call (.fn 279) [.t 26, .t 29, .t 30], none, []⟩,
  ⟨some 25, .mov (.t 31), none, []⟩,
  ⟨some 32, .ext (.t 25) 0, none, []⟩,
  ⟨some 33, .ext (.t 25) 1, none, []⟩,
  ⟨some 8, .mov (.t 32), none, []⟩,
  ⟨some 9, .mov (.t 33), none, []⟩] [1, 2, 24, 25, 26, 27, 28, 29, 30, 31, 32, 33]
def R_meek_Keep_4 : AC := .ops false [⟨some 34, .mov (.t 9), none, []⟩,
  ⟨some 35, .bin .neq (.t 34) (.c (.int .i64 0)), none, []⟩] [9, 34]
def R_meek_Keep_5 : AC := .ops false [⟨some 6, .mov (.c (.int .i64 0)), none, []⟩,
  ⟨some 7, .mov (.c (.int .i64 2)), none, []⟩] [0, 8, 35]
def R_meek_Keep_6 : AC := .ops false [⟨some 36, .mov (.t 0), none, []⟩,
  ⟨some 37, .mov (.t 8), none, []⟩,
  ⟨some 38, .bin .sub (.t 36) (.t 37), none, []⟩,
  ⟨some 6, .mov (.t 38), none, []⟩,
  ⟨some 7, .mov (.c (.int .i64 0)), none, []⟩] [0, 8, 35, 36, 37, 38]
def F_meek_Keep : AFunc := { ntmps := 39, nargs := 3, kills := [[6, 7], [10, 11, 12, 13, 14, 15, 16, 17, 18, 19, 20, 21, 22, 23], [0, 1, 2, 24], [1, 2, 24, 25, 26, 27, 28, 29, 30, 31, 32, 33], [9, 34], [0, 8, 35], [0, 8, 35, 36, 37, 38]], results := [.t 6, .t 7], body := (.seq R_meek_Keep_0 (.seq (.seq R_meek_Keep_1 (.cond (.t 24) (.seq R_meek_Keep_2 .ret) .skip)) (.seq R_meek_Keep_3 (.seq (.seq R_meek_Keep_4 (.cond (.t 35) (.seq R_meek_Keep_5 .ret) .skip)) (.seq R_meek_Keep_6 .ret))))) }
abbrev k_meek_Keep : Nat := 219
-- suffrage/quota.Ratio
def R_quota_Ratio_0 : AC := .ops false [⟨some 2, .alloc [.bool false, .lst 0 [] (some 0), .lst 0 [] (some 0)], none, []⟩,
  ⟨some 3, .mov (.c (.int .i64 0)), none, []⟩] [3]
def R_quota_Ratio_1 : AC := .ops false [⟨some 4, .mov (.t 0), none, []⟩,
  ⟨some 5, .bslice 1 [.int .i64 0] 1 [(0, .t 4)], none, []⟩,
  ⟨some 6, .call (.fn 281) [.t 5], none, []⟩,
  ⟨some 7, .un .not (.t 6), none, []⟩] [4, 5, 6]
def R_quota_Ratio_2 : AC := .ops false [⟨some 8, .build [.bool false, .lst 0 [] (some 0), .lst 0 [] (some 0)] [], none, []⟩,
  ⟨none, .store 3 (.t 2) (.t 8), none, []⟩,
  ⟨some 3, .mov (.c (.int .i64 2)), none, []⟩] [0, 7, 8]
def R_quota_Ratio_3 : AC := .ops false [⟨some 9, .mov (.t 0), none, []⟩,
  ⟨some 10, .call (.fn 30) [.t 9, .c (.int .i64 1000000000)], none, []⟩,
  ⟨some 11, .ext (.t 10) 0, none, []⟩,
  ⟨some 12, .ext (.t 10) 1, none, []⟩,
  ⟨none, .store 3 (.t 2) (.t 11), none, []⟩,
  ⟨some 3, .mov (.t 12), none, []⟩] [0, 7, 9, 10, 11, 12]
def F_quota_Ratio : AFunc := { ntmps := 13, nargs := 1, kills := [[3], [4, 5, 6], [0, 7, 8], [0, 7, 9, 10, 11, 12]], results := [.cell 2 3 false, .t 3], body := (.seq R_quota_Ratio_0 (.seq (.seq R_quota_Ratio_1 (.cond (.t 7) (.seq R_quota_Ratio_2 .ret) .skip)) (.seq R_quota_Ratio_3 .ret))) }
abbrev k_quota_Ratio : Nat := 223
-- suffrage/profile.Many$1
def R_profile_Many_1_0 : AC := .ops false [⟨some 1, .box (.t 0), none, []⟩,
  ⟨some 2, .mov (.c (.bool false)), none, []⟩] [0, 1, 2]
def R_profile_Many_1_1 : AC := .ops false [⟨some 2, .mov (.c (.bool true)), none, []⟩] []
def F_profile_Many_1 : AFunc := { ntmps := 3, nargs := 1, kills := [[0, 1, 2], []], results := [.t 2], body := (.seq R_profile_Many_1_0 (.seq R_profile_Many_1_1 .ret)) }
abbrev k_profile_Many_1 : Nat := 224
-- suffrage/phragmen.approvals
def R_phragmen_approvals_0 : AC := .ops false [⟨some 1, .box (.t 0), none, []⟩,
  ⟨some 2, .mov (.c (.bool false)), none, []⟩] [0, 2]
def R_phragmen_approvals_1 : AC := .ops false [⟨some 3, .load 3 false (.t 1), none, []⟩,
  ⟨some 4, .call (.fn 19) [.t 3], none, []⟩,
  ⟨some 5, .bin .eql (.t 4) (.c (.int .i64 0)), none, []⟩,
  ⟨some 6, .mov (.t 5), none, []⟩,
  ⟨some 7, .fa (.t 1) 1, some (6, true), []⟩,
  ⟨some 8, .load 1 true (.t 7), some (6, true), []⟩,
  ⟨some 9, .bin .eql (.t 8) (.c (.int .u8 2)), some (6, true), []⟩,
  ⟨some 10, .pick (.t 6) (.t 9) (.c (.bool false)), none, []⟩,
  ⟨some 2, .mov (.t 10), none, []⟩] [1, 3, 4, 5, 6, 7, 8, 9, 10]
def F_phragmen_approvals : AFunc := { ntmps := 11, nargs := 1, kills := [[0, 2], [1, 3, 4, 5, 6, 7, 8, 9, 10]], results := [.t 2], body := (.seq R_phragmen_approvals_0 (.seq R_phragmen_approvals_1 .ret)) }
abbrev k_phragmen_approvals : Nat := 225
-- suffrage/phragmen.supports
def R_phragmen_supports_0 : AC := .ops false [⟨some 2, .box (.t 0), none, []⟩,
  ⟨some 4, .mov (.c (.bool false)), none, []⟩] [0, 4]
def R_phragmen_supports_1 : AC := .ops false [⟨some 5, .fa (.t 2) 0, none, []⟩,
  ⟨some 6, .load 1 true (.t 5), none, []⟩,
  ⟨some 7, .mov (.t 1), none, []⟩,
  ⟨some 8, .call (.fn 198) [.t 6, .t 7], none, []⟩,
  ⟨some 4, .mov (.t 8), none, []⟩] [1, 2, 5, 6, 7, 8]
def F_phragmen_supports : AFunc := { ntmps := 9, nargs := 2, kills := [[0, 4], [1, 2, 5, 6, 7, 8]], results := [.t 4], body := (.seq R_phragmen_supports_0 (.seq R_phragmen_supports_1 .ret)) }
abbrev k_phragmen_supports : Nat := 226
-- suffrage/ratio.Mul
def R_ratio_Mul_0 : AC := .ops false [⟨some 2, .box (.t 0), none, []⟩,
  ⟨some 3, .box (.t 1), none, []⟩,
  ⟨some 4, .alloc [.bool false, .lst 0 [] (some 0), .lst 0 [] (some 0)], none, []⟩,
  ⟨some 5, .mov (.c (.int .i64 0)), none, []⟩] [0, 1, 5]
def R_ratio_Mul_1 : AC := .ops false [⟨some 7, .load 3 false (.t 2), none, []⟩,
  ⟨some 8, .load 3 false (.t 3), none, []⟩,
  ⟨some 9, .build [.bool false, .lst 0 [] (some 0), .lst 0 [] (some 0), .bool false, .lst 0 [] (some 0), .lst 0 [] (some 0)] [(0, 3, .t 7), (3, 3, .t 8)], none, []⟩,
  ⟨some 6, .alloc [.bool false, .lst 0 [] (some 0), .lst 0 [] (some 0), .bool false, .lst 0 [] (some 0), .lst 0 [] (some 0)], none, []⟩,
  ⟨none, .store 6 (.t 6) (.t 9), none, []⟩] [2, 3, 7, 8, 9]
def R_ratio_Mul_2 : AC := .ops false [⟨some 10, .load 6 false (.t 6), none, []⟩,
  ⟨some 11, .load 6 false (.t 6), none, []⟩,
  ⟨some 12, .mkfn 283 [.t 11] [], none, []⟩,
  ⟨some 13, .call (.fn 282) [.t 10, .t 12], none, []⟩,
  ⟨some 14, .ext (.t 13) 0, none, []⟩,
  ⟨some 15, .ext (.t 13) 1, none, []⟩,
  ⟨none, .store 3 (.t 4) (.t 14), none, []⟩,
  ⟨some 5, .mov (.t 15), none, []⟩] [6, 10, 11, 12, 13, 14, 15]
def F_ratio_Mul : AFunc := { ntmps := 16, nargs := 2, kills := [[0, 1, 5], [2, 3, 7, 8, 9], [6, 10, 11, 12, 13, 14, 15]], results := [.cell 4 3 false, .t 5], body := (.seq R_ratio_Mul_0 (.seq R_ratio_Mul_1 (.seq R_ratio_Mul_2 .ret))) }
abbrev k_ratio_Mul : Nat := 227
-- suffrage/ratio.Add
def R_ratio_Add_0 : AC := .ops false [⟨some 2, .box (.t 0), none, []⟩,
  ⟨some 3, .box (.t 1), none, []⟩,
  ⟨some 4, .alloc [.bool false, .lst 0 [] (some 0), .lst 0 [] (some 0)], none, []⟩,
  ⟨some 5, .mov (.c (.int .i64 0)), none, []⟩] [0, 1, 5]
def R_ratio_Add_1 : AC := .ops false [⟨some 7, .load 3 false (.t 2), none, []⟩,
  ⟨some 8, .load 3 false (.t 3), none, []⟩,
  ⟨some 9, .build [.bool false, .lst 0 [] (some 0), .lst 0 [] (some 0), .bool false, .lst 0 [] (some 0), .lst 0 [] (some 0)] [(0, 3, .t 7), (3, 3, .t 8)], none, []⟩,
  ⟨some 6, .alloc [.bool false, .lst 0 [] (some 0), .lst 0 [] (some 0), .bool false, .lst 0 [] (some 0), .lst 0 [] (some 0)], none, []⟩,
  ⟨none, .store 6 (.t 6) (.t 9), none, []⟩] [2, 3, 7, 8, 9]
def R_ratio_Add_2 : AC := .ops false [⟨some 10, .load 6 false (.t 6), none, []⟩,
  ⟨some 11, .load 6 false (.t 6), none, []⟩,
  ⟨some 12, .mkfn 284 [.t 11] [], none, []⟩,
  ⟨some 13, .call (.fn 282) [.t 10, .t 12], none, []⟩,
  ⟨some 14, .ext (.t 13) 0, none, []⟩,
  ⟨some 15, .ext (.t 13) 1, none, []⟩,
  ⟨none, .store 3 (.t 4) (.t 14), none, []⟩,
  ⟨some 5, .mov (.t 15), none, []⟩] [6, 10, 11, 12, 13, 14, 15]
def F_ratio_Add : AFunc := { ntmps := 16, nargs := 2, kills := [[0, 1, 5], [2, 3, 7, 8, 9], [6, 10, 11, 12, 13, 14, 15]], results := [.cell 4 3 false, .t 5], body := (.seq R_ratio_Add_0 (.seq R_ratio_Add_1 (.seq R_ratio_Add_2 .ret))) }
abbrev k_ratio_Add : Nat := 228
-- suffrage/ratio.Div
def R_ratio_Div_0 : AC := .ops false [⟨some 2, .box (.t 0), none, []⟩,
  ⟨some 3, .box (.t 1), none, []⟩,
  ⟨some 4, .alloc [.bool false, .lst 0 [] (some 0), .lst 0 [] (some 0)], none, []⟩,
  ⟨some 5, .mov (.c (.int .i64 0)), none, []⟩] [0, 1, 5]
def R_ratio_Div_1 : AC := .ops false [⟨some 7, .load 3 false (.t 2), none, []⟩,
  ⟨some 8, .load 3 false (.t 3), none, []⟩,
  ⟨some 9, .build [.bool false, .lst 0 [] (some 0), .lst 0 [] (some 0), .bool false, .lst 0 [] (some 0), .lst 0 [] (some 0)] [(0, 3, .t 7), (3, 3, .t 8)], none, []⟩,
  ⟨some 6, .alloc [.bool false, .lst 0 [] (some 0), .lst 0 [] (some 0), .bool false, .lst 0 [] (some 0), .lst 0 [] (some 0)], none, []⟩,
  ⟨none, .store 6 (.t 6) (.t 9), none, []⟩] [2, 3, 7, 8, 9]
def R_ratio_Div_2 : AC := .ops false [⟨some 10, .load 6 false (.t 6), none, []⟩,
  ⟨some 11, .load 6 false (.t 6), none, []⟩,
  ⟨some 12, .mkfn 285 [.t 11] [], none, []⟩,
  ⟨some 13, .call (.fn 282) [.t 10, .t 12], none, []⟩,
  ⟨some 14, .ext (.t 13) 0, none, []⟩,
  ⟨some 15, .ext (.t 13) 1, none, []⟩,
  ⟨none, .store 3 (.t 4) (.t 14), none, []⟩,
  ⟨some 5, .mov (.t 15), none, []⟩] [6, 10, 11, 12, 13, 14, 15]
def F_ratio_Div : AFunc := { ntmps := 16, nargs := 2, kills := [[0, 1, 5], [2, 3, 7, 8, 9], [6, 10, 11, 12, 13, 14, 15]], results := [.cell 4 3 false, .t 5], body := (.seq R_ratio_Div_0 (.seq R_ratio_Div_1 (.seq R_ratio_Div_2 .ret))) }
abbrev k_ratio_Div : Nat := 229
-- suffrage/phragmen.cheapest$1
def R_phragmen_cheapest_1_0 : AC := .ops false [⟨some 5, .mov (.c (.int .i64 0)), none, []⟩] [5]
def R_phragmen_cheapest_1_1 : AC := .ops false [⟨some 9, .load 1 true (.t 2), none, []⟩,
  ⟨some 10, .mov (.t 0), none, []⟩,
  ⟨some 11, .mget 0 (.agg [.bool false, .lst 0 [] (some 0), .lst 0 [] (some 0)]) false (.t 9) (.t 10), none, []⟩,
  ⟨some 12, .load 1 true (.t 2), none, []⟩,
  ⟨some 13, .mov (.t 1), none, []⟩,
  ⟨some 14, .mget 0 (.agg [.bool false, .lst 0 [] (some 0), .lst 0 [] (some 0)]) false (.t 12) (.t 13), none, []⟩,
  ⟨some 15, .call (.fn 166) [.t 11, .t 14], none, []⟩,
  ⟨some 8, .mov (.t 15), none, []⟩,
  ⟨some 16, .ext (.t 8) 0, none, []⟩,
  ⟨some 17, .ext (.t 8) 1, none, []⟩,
  ⟨some 6, .mov (.t 16), none, []⟩,
  ⟨some 7, .mov (.t 17), none, []⟩] [0, 1, 2, 7, 8, 9, 10, 11, 12, 13, 14, 15, 16, 17]
def R_phragmen_cheapest_1_2 : AC := .ops false [⟨some 18, .mov (.t 6), none, []⟩,
  ⟨some 5, .mov (.t 18), none, []⟩] [6, 18]
def F_phragmen_cheapest_1 : AFunc := { ntmps := 19, nargs := 3, kills := [[5], [0, 1, 2, 7, 8, 9, 10, 11, 12, 13, 14, 15, 16, 17], [6, 18]], results := [.t 5], body := (.seq R_phragmen_cheapest_1_0 (.seq R_phragmen_cheapest_1_1 (.seq R_phragmen_cheapest_1_2 .ret))) }
abbrev k_phragmen_cheapest_1 : Nat := 230
-- suffrage/lists.votes
def R_lists_votes_0 : AC := .ops false [⟨some 1, .box (.t 0), none, []⟩,
  ⟨some 2, .mov (.c (.lst 0 [] (some 0))), none, []⟩,
  ⟨some 3, .mov (.c (.int .i64 0)), none, []⟩] [0, 2]
def R_lists_votes_1 : AC := .ops false [⟨some 6, .fa (.t 1) 0, none, []⟩,
  ⟨some 7, .load 1 true (.t 6), none, []⟩,
  ⟨some 8, .mkslice 1 8 [.int .i64 0] (.t 7) (.t 7), none, []⟩,
  ⟨some 2, .mov (.t 8), none, []⟩] [6, 7, 8]
def R_lists_votes_2 : AC := .ops false [⟨some 9, .fa (.t 1) 2, none, []⟩,
  ⟨some 10, .load 1 true (.t 9), none, []⟩,
  ⟨some 11, .len (.t 10), none, []⟩,
  ⟨some 12, .mov (.c (.int .i64 0)), none, []⟩] [1, 9]
def R_lists_votes_3 : AC := .ops false [⟨some 13, .bin .lss (.t 12) (.t 11), none, []⟩] []
def R_lists_votes_4 : AC := .ops false [⟨some 14, .ia 2 (.t 10) (.t 12), none, []⟩,
  ⟨some 15, .load 2 false (.t 14), none, []⟩,
  ⟨some 5, .alloc [.lst 0 [] (some 0), .int .i64 0], none, []⟩,
  ⟨none, .store 2 (.t 5) (.t 15), none, []⟩] [13, 14, 15]
def R_lists_votes_5 : AC := .ops false [⟨some 16, .fa (.t 5) 0, none, []⟩,
  ⟨some 17, .load 1 true (.t 16), none, []⟩,
  ⟨some 18, .len (.t 17), none, []⟩,
  ⟨some 19, .bin .eql (.t 18) (.c (.int .i64 1)), none, []⟩] [16, 17, 18]
def R_lists_votes_6 : AC := .ops true [⟨some 20, .mov (.t 2), none, []⟩,
  ⟨some 21, .fa (.t 5) 0, none, []⟩,
  ⟨some 22, .load 1 true (.t 21), none, [1]⟩,
  ⟨some 23, .ia 1 (.t 22) (.c (.int .i64 0)), none, [2]⟩,
  ⟨some 24, .load 1 true (.t 23), none, [3]⟩,
  ⟨some 25, .ia 1 (.t 20) (.t 24), none, [0, 4]⟩,
  ⟨some 26, .load 1 true (.t 25), none, [5]⟩,
  ⟨some 27, .fa (.t 5) 1, none, []⟩,
  ⟨some 28, .load 1 true (.t 27), none, [7]⟩,
  ⟨some 29, .bin .add (.t 26) (.t 28), none, [6, 8]⟩,
  ⟨some 30, .ia 1 (.t 20) (.t 24), none, [0, 4, 0, 1, 2, 3, 4, 5, 6, 7, 8, 9]⟩,
  ⟨none, .store 1 (.t 30) (.t 29), none, [10, 9, 0, 1, 2, 3, 4, 5, 6, 7, 8, 9]⟩] [5, 19, 20, 21, 22, 23, 24, 25, 26, 27, 28, 29, 30]
def R_lists_votes_7 : AC := .ops false [⟨some 31, .mov (.t 3), none, []⟩,
  ⟨some 32, .fa (.t 5) 1, none, []⟩,
  ⟨some 33, .load 1 true (.t 32), none, []⟩,
  ⟨some 34, .bin .add (.t 31) (.t 33), none, []⟩,
  ⟨some 3, .mov (.t 34), none, []⟩] [5, 19, 31, 32, 33, 34]
def R_lists_votes_8 : AC := .ops false [⟨some 35, .bin .add (.t 12) (.c (.int .i64 1)), none, []⟩,
  ⟨some 12, .mov (.t 35), none, []⟩] [35]
def L_lists_votes_1 : AC := (.seq R_lists_votes_3 (.seq (.cond (.t 13) .skip (.exit 0)) (.seq (.block 1 (.seq R_lists_votes_4 (.seq R_lists_votes_5 (.cond (.t 19) R_lists_votes_6 R_lists_votes_7)))) R_lists_votes_8)))
def R_lists_votes_9 : AC := .ops false [⟨some 36, .mov (.t 2), none, []⟩,
  ⟨some 37, .mov (.t 3), none, []⟩,
  ⟨some 2, .mov (.t 36), none, []⟩,
  ⟨some 3, .mov (.t 37), none, []⟩] [10, 11, 12, 13, 36, 37]
def F_lists_votes : AFunc := { ntmps := 38, nargs := 1, kills := [[0, 2], [6, 7, 8], [1, 9], [], [13, 14, 15], [16, 17, 18], [5, 19, 20, 21, 22, 23, 24, 25, 26, 27, 28, 29, 30], [5, 19, 31, 32, 33, 34], [35], [10, 11, 12, 13, 36, 37]], results := [.t 2, .t 3], body := (.seq R_lists_votes_0 (.seq R_lists_votes_1 (.seq (.seq R_lists_votes_2 (.block 0 (.loop L_lists_votes_1))) (.seq R_lists_votes_9 .ret)))) }
abbrev k_lists_votes : Nat := 231
-- suffrage/lists.best[suffrage/lists.quotient]
def R_lists_best_0 : AC := .ops false [⟨some 6, .mov (.c (.lst 0 [] (some 0))), none, []⟩] []
def R_lists_best_1 : AC := .ops false [⟨some 10, .mov (.t 0), none, []⟩,
  ⟨some 11, .len (.t 10), none, []⟩,
  ⟨some 12, .mov (.c (.int .i64 0)), none, []⟩] [0]
def R_lists_best_2 : AC := .ops false [⟨some 13, .bin .lss (.t 12) (.t 11), none, []⟩] []
def R_lists_best_3 : AC := .ops false [⟨some 14, .ia 1 (.t 10) (.t 12), none, []⟩,
  ⟨some 15, .load 1 true (.t 14), none, []⟩,
  ⟨some 8, .mov (.t 15), none, []⟩] [13, 14, 15]
def R_lists_best_4 : AC := .ops false [⟨some 9, .mov (.c (.int .i64 1)), none, []⟩] []
def R_lists_best_5 : AC := .ops false [⟨some 16, .mov (.t 6), none, []⟩,
  ⟨some 17, .len (.t 16), none, []⟩,
  ⟨some 18, .bin .gtr (.t 17) (.c (.int .i64 0)), none, []⟩] [16, 17]
def R_lists_best_6 : AC := .ops true [⟨some 19, .mov (.t 2), none, []⟩,
  ⟨some 20, .mov (.t 1), none, []⟩,
  ⟨some 21, .mov (.t 8), none, []⟩,
  ⟨some 22, .call (.dyn (.t 20)) [.t 21], none, [1, 2]⟩,
  ⟨some 23, .mov (.t 1), none, []⟩,
  ⟨some 24, .mov (.t 6), none, []⟩,
  ⟨some 25, .ia 1 (.t 24) (.c (.int .i64 0)), none, [5]⟩,
  ⟨some 26, .load 1 true (.t 25), none, [6]⟩,
  ⟨some 27, .call (.dyn (.t 23)) [.t 26], none, [4, 7, 3]⟩,
  ⟨some 28, .call (.dyn (.t 19)) [.t 22, .t 27], none, [0, 3, 8, 8]⟩,
  ⟨some 9, .mov (.t 28), none, [9, 9, 0, 1, 2, 3, 4, 5, 6, 7, 8, 9]⟩] [18, 19, 20, 21, 22, 23, 24, 25, 26, 27, 28]
def R_lists_best_7 : AC := .ops false [⟨some 29, .mov (.t 9), none, []⟩,
  ⟨some 30, .bin .gtr (.t 29) (.c (.int .i64 0)), none, []⟩] [18, 29]
def R_lists_best_8 : AC := .ops false [⟨some 6, .mov (.c (.lst 0 [] (some 0))), none, []⟩] [30]
def R_lists_best_9 : AC := .ops false [⟨some 31, .mov (.t 9), none, []⟩,
  ⟨some 32, .bin .geq (.t 31) (.c (.int .i64 0)), none, []⟩] [9, 30, 31]
def R_lists_best_10 : AC := .ops false [⟨some 33, .mov (.t 6), none, []⟩,
  ⟨some 34, .mov (.t 8), none, []⟩,
  ⟨some 35, .bslice 1 [.int .i64 0] 1 [(0, .t 34)], none, []⟩,
  ⟨some 36, .append 1 8 (.t 33) (.t 35), none, []⟩,
  ⟨some 6, .mov (.t 36), none, []⟩] [8, 32, 33, 34, 35, 36]
def R_lists_best_11 : AC := .ops false [⟨some 37, .bin .add (.t 12) (.c (.int .i64 1)), none, []⟩,
  ⟨some 12, .mov (.t 37), none, []⟩] [8, 32, 37]
def L_lists_best_1 : AC := (.seq R_lists_best_2 (.seq (.cond (.t 13) .skip (.exit 0)) (.seq (.block 1 (.seq R_lists_best_3 (.seq R_lists_best_4 (.seq (.seq R_lists_best_5 (.cond (.t 18) R_lists_best_6 .skip)) (.seq (.seq R_lists_best_7 (.cond (.t 30) R_lists_best_8 .skip)) (.seq R_lists_best_9 (.cond (.t 32) R_lists_best_10 .skip))))))) R_lists_best_11)))
def R_lists_best_12 : AC := .ops false [⟨some 38, .mov (.t 6), none, []⟩,
  ⟨some 6, .mov (.t 38), none, []⟩] [1, 2, 10, 11, 12, 13, 38]
def F_lists_best : AFunc := { ntmps := 39, nargs := 3, kills := [[], [0], [], [13, 14, 15], [], [16, 17], [18, 19, 20, 21, 22, 23, 24, 25, 26, 27, 28], [18, 29], [30], [9, 30, 31], [8, 32, 33, 34, 35, 36], [8, 32, 37], [1, 2, 10, 11, 12, 13, 38]], results := [.t 6], body := (.seq R_lists_best_0 (.seq (.seq R_lists_best_1 (.block 0 (.loop L_lists_best_1))) (.seq R_lists_best_12 .ret))) }
abbrev k_lists_best : Nat := 232
-- (suffrage/lists.method).allocate$1
def R_lists_method_allocate_1_0 : AC := .ops false [⟨some 5, .alloc [.int .i64 0, .int .i64 0], none, []⟩] []
def R_lists_method_allocate_1_1 : AC := .ops true [⟨some 6, .load 1 true (.t 1), none, []⟩,
  ⟨some 7, .mov (.t 0), none, []⟩,
  ⟨some 8, .ia 1 (.t 6) (.t 7), none, [0, 1]⟩,
  ⟨some 9, .load 1 true (.t 8), none, [2]⟩,
  ⟨some 10, .fa (.t 2) 0, none, []⟩,
  ⟨some 11, .load 1 true (.t 10), none, [4]⟩,
  ⟨some 12, .load 1 true (.t 3), none, []⟩,
  ⟨some 13, .mov (.t 0), none, []⟩,
  ⟨some 14, .ia 1 (.t 12) (.t 13), none, [6, 7]⟩,
  ⟨some 15, .load 1 true (.t 14), none, [8]⟩,
  ⟨some 16, .call (.dyn (.t 11)) [.t 15], none, [5, 9]⟩,
  ⟨some 17, .build [.int .i64 0, .int .i64 0] [(0, 1, .t 9), (1, 1, .t 16)], none, [3, 10]⟩,
  ⟨none, .store 2 (.t 5) (.t 17), none, [11, 10, 0, 1, 2, 3, 4, 5, 6, 7, 8, 9, 10, 11]⟩] [0, 1, 2, 3, 6, 7, 8, 9, 10, 11, 12, 13, 14, 15, 16, 17]
def F_lists_method_allocate_1 : AFunc := { ntmps := 18, nargs := 4, kills := [[], [0, 1, 2, 3, 6, 7, 8, 9, 10, 11, 12, 13, 14, 15, 16, 17]], results := [.cell 5 2 false], body := (.seq R_lists_method_allocate_1_0 (.seq R_lists_method_allocate_1_1 .ret)) }
abbrev k_lists_method_allocate_1 : Nat := 233
-- (suffrage/lists.method).allocate$2
def R_lists_method_allocate_2_0 : AC := .ops false [⟨some 2, .box (.t 0), none, []⟩,
  ⟨some 3, .box (.t 1), none, []⟩,
  ⟨some 4, .mov (.c (.int .i64 0)), none, []⟩] [0, 1, 4]
def R_lists_method_allocate_2_1 : AC := .ops false [⟨some 5, .fa (.t 2) 0, none, []⟩,
  ⟨some 6, .load 1 true (.t 5), none, []⟩,
  ⟨some 7, .fa (.t 3) 1, none, []⟩,
  ⟨some 8, .load 1 true (.t 7), none, []⟩,
  ⟨some 9, .bin .mul (.t 6) (.t 8), none, []⟩,
  ⟨some 10, .fa (.t 3) 0, none, []⟩,
  ⟨some 11, .load 1 true (.t 10), none, []⟩,
  ⟨some 12, .fa (.t 2) 1, none, []⟩,
  ⟨some 13, .load 1 true (.t 12), none, []⟩,
  ⟨some 14, .bin .mul (.t 11) (.t 13), none, []⟩,
  ⟨some 15, .call (.fn 94) [.t 9, .t 14], none, []⟩,
  ⟨some 4, .mov (.t 15), none, []⟩] [2, 3, 5, 6, 7, 8, 9, 10, 11, 12, 13, 14, 15]
def F_lists_method_allocate_2 : AFunc := { ntmps := 16, nargs := 2, kills := [[0, 1, 4], [2, 3, 5, 6, 7, 8, 9, 10, 11, 12, 13, 14, 15]], results := [.t 4], body := (.seq R_lists_method_allocate_2_0 (.seq R_lists_method_allocate_2_1 .ret)) }
abbrev k_lists_method_allocate_2 : Nat := 234
-- slices.Repeat[[]int,int]
def R_slices_Repeat_0 : AC := .ops false [⟨some 4, .mov (.c (.lst 0 [] (some 0))), none, []⟩] [4]
def R_slices_Repeat_1 : AC := .ops false [⟨some 9, .mov (.t 1), none, []⟩,
  ⟨some 10, .bin .lss (.t 9) (.c (.int .i64 0)), none, []⟩] [9]
def R_slices_Repeat_2 : AC := .ops false [⟨some 11, .mkiface 9 (.c (.str [99, 97, 110, 110, 111, 116, 32, 98, 101, 32, 110, 101, 103, 97, 116, 105, 118, 101])), none, []⟩,
  ⟨none, .no, none, []⟩] [10, 11]
def R_slices_Repeat_3 : AC := .ops false [⟨some 13, .mov (.t 0), none, []⟩,
  ⟨some 14, .len (.t 13), none, []⟩,
  ⟨some 15, .conv .u64 (.t 14), none, []⟩,
  ⟨some 16, .mov (.t 1), none, []⟩,
  ⟨some 17, .conv .u64 (.t 16), none, []⟩,
  ⟨some 18, .call (.fn 286) [.t 15, .t 17], none, []⟩,
  ⟨some 12, .mov (.t 18), none, []⟩,
  ⟨some 19, .ext (.t 12) 0, none, []⟩,
  ⟨some 20, .ext (.t 12) 1, none, []⟩,
  ⟨some 5, .mov (.t 19), none, []⟩,
  ⟨some 6, .mov (.t 20), none, []⟩] [1, 10, 12, 13, 14, 15, 16, 17, 18, 19, 20]
def R_slices_Repeat_4 : AC := .ops false [⟨some 21, .mov (.t 5), none, []⟩,
  ⟨some 22, .bin .gtr (.t 21) (.c (.int .u64 0)), none, []⟩,
  ⟨some 23, .mov (.t 22), none, []⟩,
  ⟨some 24, .mov (.t 6), some (23, false), []⟩,
  ⟨some 25, .bin .gtr (.t 24) (.c (.int .u64 9223372036854775807)), some (23, false), []⟩,
  ⟨some 26, .pick (.t 23) (.c (.bool true)) (.t 25), none, []⟩] [5, 21, 22, 23, 24, 25]
def R_slices_Repeat_5 : AC := .ops false [⟨some 27, .mkiface 9 (.c (.str [116, 104, 101, 32, 114, 101, 115, 117, 108, 116, 32, 111, 102, 32, 40, 108, 101, 110, 40, 120, 41, 32, 42, 32, 99, 111, 117, 110, 116, 41, 32, 111, 118, 101, 114, 102, 108, 111, 119, 115])), none, []⟩,
  ⟨none, .no, none, []⟩] [26, 27]
def R_slices_Repeat_6 : AC := .ops false [⟨some 28, .mov (.t 6), none, []⟩,
  ⟨some 29, .conv .i64 (.t 28), none, []⟩,
  ⟨some 30, .mkslice 1 8 [.int .i64 0] (.t 29) (.t 29), none, []⟩,
  ⟨some 7, .mov (.t 30), none, []⟩] [6, 26, 28, 29, 30]
def R_slices_Repeat_7 : AC := .ops false [⟨some 31, .mov (.t 7), none, []⟩,
  ⟨some 32, .mov (.t 0), none, []⟩,
  ⟨some 33, .copy 1 (.t 31) (.t 32), none, []⟩,
  ⟨some 8, .mov (.t 33), none, []⟩] [0, 31, 32, 33]
def R_slices_Repeat_8 : AC := .ops false [⟨some 34, .mov (.t 8), none, []⟩,
  ⟨some 35, .mov (.t 7), none, []⟩,
  ⟨some 36, .len (.t 35), none, []⟩,
  ⟨some 37, .bin .lss (.t 34) (.t 36), none, []⟩] [34, 35, 36]
def R_slices_Repeat_9 : AC := .ops true [⟨some 38, .mov (.t 8), none, []⟩,
  ⟨some 39, .mov (.t 7), none, []⟩,
  ⟨some 40, .mov (.t 8), none, []⟩,
  ⟨some 41, .slice 1 (.t 39) (some (.t 40)) none none, none, [1, 2]⟩,
  ⟨some 42, .mov (.t 7), none, []⟩,
  ⟨some 43, .mov (.t 8), none, []⟩,
  ⟨some 44, .slice 1 (.t 42) none (some (.t 43)) none, none, [4, 5]⟩,
  ⟨some 45, .copy 1 (.t 41) (.t 44), none, [3, 6]⟩,
  ⟨some 46, .bin .add (.t 38) (.t 45), none, [0, 7]⟩,
  ⟨some 8, .mov (.t 46), none, [8, 7, 0, 1, 2, 3, 4, 5, 6, 7, 8]⟩] [37, 38, 39, 40, 41, 42, 43, 44, 45, 46]
def L_slices_Repeat_1 : AC := (.seq (.seq R_slices_Repeat_8 (.cond (.t 37) .skip (.exit 0))) (.block 1 R_slices_Repeat_9))
def R_slices_Repeat_10 : AC := .ops false [⟨some 47, .mov (.t 7), none, []⟩,
  ⟨some 4, .mov (.t 47), none, []⟩] [7, 8, 37, 47]
def F_slices_Repeat : AFunc := { ntmps := 48, nargs := 2, kills := [[4], [9], [10, 11], [1, 10, 12, 13, 14, 15, 16, 17, 18, 19, 20], [5, 21, 22, 23, 24, 25], [26, 27], [6, 26, 28, 29, 30], [0, 31, 32, 33], [34, 35, 36], [37, 38, 39, 40, 41, 42, 43, 44, 45, 46], [7, 8, 37, 47]], results := [.t 4], body := (.seq R_slices_Repeat_0 (.seq (.seq R_slices_Repeat_1 (.cond (.t 10) R_slices_Repeat_2 .skip)) (.seq R_slices_Repeat_3 (.seq (.seq R_slices_Repeat_4 (.cond (.t 26) R_slices_Repeat_5 .skip)) (.seq R_slices_Repeat_6 (.seq R_slices_Repeat_7 (.seq (.block 0 (.loop L_slices_Repeat_1)) (.seq R_slices_Repeat_10 .ret)))))))) }
abbrev k_slices_Repeat : Nat := 235
-- suffrage/lists.best[int]
def R_lists_best_2_0 : AC := .ops false [⟨some 6, .mov (.c (.lst 0 [] (some 0))), none, []⟩] []
def R_lists_best_2_1 : AC := .ops false [⟨some 10, .mov (.t 0), none, []⟩,
  ⟨some 11, .len (.t 10), none, []⟩,
  ⟨some 12, .mov (.c (.int .i64 0)), none, []⟩] [0]
def R_lists_best_2_2 : AC := .ops false [⟨some 13, .bin .lss (.t 12) (.t 11), none, []⟩] []
def R_lists_best_2_3 : AC := .ops false [⟨some 14, .ia 1 (.t 10) (.t 12), none, []⟩,
  ⟨some 15, .load 1 true (.t 14), none, []⟩,
  ⟨some 8, .mov (.t 15), none, []⟩] [13, 14, 15]
def R_lists_best_2_4 : AC := .ops false [⟨some 9, .mov (.c (.int .i64 1)), none, []⟩] []
def R_lists_best_2_5 : AC := .ops false [⟨some 16, .mov (.t 6), none, []⟩,
  ⟨some 17, .len (.t 16), none, []⟩,
  ⟨some 18, .bin .gtr (.t 17) (.c (.int .i64 0)), none, []⟩] [16, 17]
def R_lists_best_2_6 : AC := .ops true [⟨some 19, .mov (.t 2), none, []⟩,
  ⟨some 20, .mov (.t 1), none, []⟩,
  ⟨some 21, .mov (.t 8), none, []⟩,
  ⟨some 22, .call (.dyn (.t 20)) [.t 21], none, [1, 2]⟩,
  ⟨some 23, .mov (.t 1), none, []⟩,
  ⟨some 24, .mov (.t 6), none, []⟩,
  ⟨some 25, .ia 1 (.t 24) (.c (.int .i64 0)), none, [5]⟩,
  ⟨some 26, .load 1 true (.t 25), none, [6]⟩,
  ⟨some 27, .call (.dyn (.t 23)) [.t 26], none, [4, 7, 3]⟩,
  ⟨some 28, .call (.dyn (.t 19)) [.t 22, .t 27], none, [0, 3, 8, 8]⟩,
  ⟨some 9, .mov (.t 28), none, [9, 9, 0, 1, 2, 3, 4, 5, 6, 7, 8, 9]⟩] [18, 19, 20, 21, 22, 23, 24, 25, 26, 27, 28]
def R_lists_best_2_7 : AC := .ops false [⟨some 29, .mov (.t 9), none, []⟩,
  ⟨some 30, .bin .gtr (.t 29) (.c (.int .i64 0)), none, []⟩] [18, 29]
def R_lists_best_2_8 : AC := .ops false [⟨some 6, .mov (.c (.lst 0 [] (some 0))), none, []⟩] [30]
def R_lists_best_2_9 : AC := .ops false [⟨some 31, .mov (.t 9), none, []⟩,
  ⟨some 32, .bin .geq (.t 31) (.c (.int .i64 0)), none, []⟩] [9, 30, 31]
def R_lists_best_2_10 : AC := .ops false [⟨some 33, .mov (.t 6), none, []⟩,
  ⟨some 34, .mov (.t 8), none, []⟩,
  ⟨some 35, .bslice 1 [.int .i64 0] 1 [(0, .t 34)], none, []⟩,
  ⟨some 36, .append 1 8 (.t 33) (.t 35), none, []⟩,
  ⟨some 6, .mov (.t 36), none, []⟩] [8, 32, 33, 34, 35, 36]
def R_lists_best_2_11 : AC := .ops false [⟨some 37, .bin .add (.t 12) (.c (.int .i64 1)), none, []⟩,
  ⟨some 12, .mov (.t 37), none, []⟩] [8, 32, 37]
def L_lists_best_2_1 : AC := (.seq R_lists_best_2_2 (.seq (.cond (.t 13) .skip (.exit 0)) (.seq (.block 1 (.seq R_lists_best_2_3 (.seq R_lists_best_2_4 (.seq (.seq R_lists_best_2_5 (.cond (.t 18) R_lists_best_2_6 .skip)) (.seq (.seq R_lists_best_2_7 (.cond (.t 30) R_lists_best_2_8 .skip)) (.seq R_lists_best_2_9 (.cond (.t 32) R_lists_best_2_10 .skip))))))) R_lists_best_2_11)))
def R_lists_best_2_12 : AC := .ops false [⟨some 38, .mov (.t 6), none, []⟩,
  ⟨some 6, .mov (.t 38), none, []⟩] [1, 2, 10, 11, 12, 13, 38]
def F_lists_best_2 : AFunc := { ntmps := 39, nargs := 3, kills := [[], [0], [], [13, 14, 15], [], [16, 17], [18, 19, 20, 21, 22, 23, 24, 25, 26, 27, 28], [18, 29], [30], [9, 30, 31], [8, 32, 33, 34, 35, 36], [8, 32, 37], [1, 2, 10, 11, 12, 13, 38]], results := [.t 6], body := (.seq R_lists_best_2_0 (.seq (.seq R_lists_best_2_1 (.block 0 (.loop L_lists_best_2_1))) (.seq R_lists_best_2_12 .ret))) }
abbrev k_lists_best_2 : Nat := 236
-- suffrage/lists.remainders$1
def R_lists_remainders_1_0 : AC := .ops false [⟨some 3, .mov (.c (.int .i64 0)), none, []⟩] [3]
def R_lists_remainders_1_1 : AC := .ops false [⟨some 4, .load 1 true (.t 1), none, []⟩,
  ⟨some 5, .mov (.t 0), none, []⟩,
  ⟨some 6, .ia 1 (.t 4) (.t 5), none, []⟩,
  ⟨some 7, .load 1 true (.t 6), none, []⟩,
  ⟨some 3, .mov (.t 7), none, []⟩] [0, 1, 4, 5, 6, 7]
def F_lists_remainders_1 : AFunc := { ntmps := 8, nargs := 2, kills := [[3], [0, 1, 4, 5, 6, 7]], results := [.t 3], body := (.seq R_lists_remainders_1_0 (.seq R_lists_remainders_1_1 .ret)) }
abbrev k_lists_remainders_1 : Nat := 237
-- suffrage/lists.remainders$2
def R_lists_remainders_2_0 : AC := .ops false [⟨some 3, .mov (.c (.bool false)), none, []⟩] [3]
def R_lists_remainders_2_1 : AC := .ops false [⟨some 4, .mov (.t 0), none, []⟩,
  ⟨some 5, .load 1 true (.t 1), none, []⟩,
  ⟨some 6, .bin .eql (.t 4) (.t 5), none, []⟩,
  ⟨some 3, .mov (.t 6), none, []⟩] [0, 1, 4, 5, 6]
def F_lists_remainders_2 : AFunc := { ntmps := 7, nargs := 2, kills := [[3], [0, 1, 4, 5, 6]], results := [.t 3], body := (.seq R_lists_remainders_2_0 (.seq R_lists_remainders_2_1 .ret)) }
abbrev k_lists_remainders_2 : Nat := 238
-- slices.AppendSeq[[]int,int]
def R_slices_AppendSeq_0 : AC := .ops false [⟨some 2, .box (.t 0), none, []⟩,
  ⟨some 4, .mov (.c (.lst 0 [] (some 0))), none, []⟩] [0, 4]
def R_slices_AppendSeq_1 : AC := .ops false [⟨some 6, .mov (.t 1), none, []⟩] [1]
def R_slices_AppendSeq_2 : AC := .ops false [⟨some 5, .mov (.t 7), none, []⟩] [6, 7]
def R_slices_AppendSeq_3 : AC := .ops false [⟨some 8, .load 1 true (.t 2), none, []⟩,
  ⟨some 9, .mov (.t 5), none, []⟩,
  ⟨some 10, .bslice 1 [.int .i64 0] 1 [(0, .t 9)], none, []⟩,
  ⟨some 11, .append 1 8 (.t 8) (.t 10), none, []⟩,
  ⟨none, .store 1 (.t 2) (.t 11), none, []⟩] [2, 5, 8, 9, 10, 11]
def L_slices_AppendSeq_1 : AC := (.block 1 R_slices_AppendSeq_3)
def R_slices_AppendSeq_4 : AC := .ops false [⟨some 12, .load 1 true (.t 2), none, []⟩,
  ⟨some 4, .mov (.t 12), none, []⟩] [2, 6, 12]
def F_slices_AppendSeq : AFunc := { ntmps := 13, nargs := 2, kills := [[0, 4], [1], [6, 7], [2, 5, 8, 9, 10, 11], [2, 6, 12]], results := [.t 4], body := (.seq R_slices_AppendSeq_0 (.seq (.seq R_slices_AppendSeq_1 (.block 0 (.range (.t 6) [7] R_slices_AppendSeq_2 L_slices_AppendSeq_1))) (.seq R_slices_AppendSeq_4 .ret))) }
abbrev k_slices_AppendSeq : Nat := 239
-- slices.siftDownOrdered[int]
def R_slices_siftDownOrdered_0 : AC := .ops false [⟨some 10, .mov (.t 1), none, []⟩,
  ⟨some 8, .mov (.t 10), none, []⟩] [1, 10]
def R_slices_siftDownOrdered_1 : AC := .ops false [⟨some 11, .mov (.t 8), none, []⟩,
  ⟨some 12, .bin .mul (.c (.int .i64 2)) (.t 11), none, []⟩,
  ⟨some 13, .bin .add (.t 12) (.c (.int .i64 1)), none, []⟩,
  ⟨some 9, .mov (.t 13), none, []⟩] [11, 12, 13]
def R_slices_siftDownOrdered_2 : AC := .ops false [⟨some 14, .mov (.t 9), none, []⟩,
  ⟨some 15, .mov (.t 2), none, []⟩,
  ⟨some 16, .bin .geq (.t 14) (.t 15), none, []⟩] [14, 15]
def R_slices_siftDownOrdered_3 : AC := .ops true [⟨some 17, .mov (.t 9), none, []⟩,
  ⟨some 18, .bin .add (.t 17) (.c (.int .i64 1)), none, [0]⟩,
  ⟨some 19, .mov (.t 2), none, []⟩,
  ⟨some 20, .bin .lss (.t 18) (.t 19), none, [1, 2]⟩,
  ⟨some 21, .mov (.t 20), none, [3]⟩,
  ⟨some 22, .mov (.t 0), some (21, true), [4]⟩,
  ⟨some 23, .mov (.t 3), some (21, true), [4]⟩,
  ⟨some 24, .mov (.t 9), some (21, true), [4]⟩,
  ⟨some 25, .bin .add (.t 23) (.t 24), some (21, true), [6, 7, 4]⟩,
  ⟨some 26, .ia 1 (.t 22) (.t 25), some (21, true), [5, 8, 4]⟩,
  ⟨some 27, .load 1 true (.t 26), some (21, true), [9, 4]⟩,
  ⟨some 28, .mov (.t 0), some (21, true), [4]⟩,
  ⟨some 29, .mov (.t 3), some (21, true), [4]⟩,
  ⟨some 30, .mov (.t 9), some (21, true), [4]⟩,
  ⟨some 31, .bin .add (.t 29) (.t 30), some (21, true), [12, 13, 4]⟩,
  ⟨some 32, .bin .add (.t 31) (.c (.int .i64 1)), some (21, true), [14, 4]⟩,
  ⟨some 33, .ia 1 (.t 28) (.t 32), some (21, true), [11, 15, 4]⟩,
  ⟨some 34, .load 1 true (.t 33), some (21, true), [16, 4]⟩,
  ⟨some 35, .call (.fn 156) [.t 27, .t 34], some (21, true), [10, 17, 4, 4]⟩,
  ⟨some 36, .pick (.t 21) (.t 35) (.c (.bool false)), none, [4, 18]⟩] [16, 17, 18, 19, 20, 21, 22, 23, 24, 25, 26, 27, 28, 29, 30, 31, 32, 33, 34, 35]
def R_slices_siftDownOrdered_4 : AC := .ops false [⟨some 37, .mov (.t 9), none, []⟩,
  ⟨some 38, .bin .add (.t 37) (.c (.int .i64 1)), none, []⟩,
  ⟨some 9, .mov (.t 38), none, []⟩] [36, 37, 38]
def R_slices_siftDownOrdered_5 : AC := .ops true [⟨some 39, .mov (.t 0), none, []⟩,
  ⟨some 40, .mov (.t 3), none, []⟩,
  ⟨some 41, .mov (.t 8), none, []⟩,
  ⟨some 42, .bin .add (.t 40) (.t 41), none, [1, 2]⟩,
  ⟨some 43, .ia 1 (.t 39) (.t 42), none, [0, 3]⟩,
  ⟨some 44, .load 1 true (.t 43), none, [4]⟩,
  ⟨some 45, .mov (.t 0), none, []⟩,
  ⟨some 46, .mov (.t 3), none, []⟩,
  ⟨some 47, .mov (.t 9), none, []⟩,
  ⟨some 48, .bin .add (.t 46) (.t 47), none, [7, 8]⟩,
  ⟨some 49, .ia 1 (.t 45) (.t 48), none, [6, 9]⟩,
  ⟨some 50, .load 1 true (.t 49), none, [10]⟩,
  ⟨some 51, .call (.fn 156) [.t 44, .t 50], none, [5, 11]⟩,
  ⟨some 52, .un .not (.t 51), none, [12]⟩] [36, 39, 40, 41, 42, 43, 44, 45, 46, 47, 48, 49, 50, 51]
def R_slices_siftDownOrdered_6 : AC := .ops true [⟨some 53, .mov (.t 0), none, []⟩,
  ⟨some 54, .mov (.t 3), none, []⟩,
  ⟨some 55, .mov (.t 8), none, []⟩,
  ⟨some 56, .bin .add (.t 54) (.t 55), none, [1, 2]⟩,
  ⟨some 57, .mov (.t 0), none, []⟩,
  ⟨some 58, .mov (.t 3), none, []⟩,
  ⟨some 59, .mov (.t 9), none, []⟩,
  ⟨some 60, .bin .add (.t 58) (.t 59), none, [5, 6]⟩,
  ⟨some 61, .mov (.t 0), none, []⟩,
  ⟨some 62, .mov (.t 3), none, []⟩,
  ⟨some 63, .mov (.t 9), none, []⟩,
  ⟨some 64, .bin .add (.t 62) (.t 63), none, [9, 10]⟩,
  ⟨some 65, .ia 1 (.t 61) (.t 64), none, [8, 11]⟩,
  ⟨some 66, .load 1 true (.t 65), none, [12]⟩,
  ⟨some 67, .mov (.t 0), none, []⟩,
  ⟨some 68, .mov (.t 3), none, []⟩,
  ⟨some 69, .mov (.t 8), none, []⟩,
  ⟨some 70, .bin .add (.t 68) (.t 69), none, [15, 16]⟩,
  ⟨some 71, .ia 1 (.t 67) (.t 70), none, [14, 17]⟩,
  ⟨some 72, .load 1 true (.t 71), none, [18]⟩,
  ⟨some 73, .ia 1 (.t 53) (.t 56), none, [0, 3, 0, 1, 2, 3, 8, 9, 10, 11, 12, 13, 19]⟩,
  ⟨none, .store 1 (.t 73) (.t 66), none, [20, 13, 0, 1, 2, 3, 8, 9, 10, 11, 12, 13, 19]⟩,
  ⟨some 74, .ia 1 (.t 57) (.t 60), none, [4, 7, 0, 1, 2, 3, 4, 5, 6, 7, 8, 9, 10, 11, 12, 13, 14, 15, 16, 17, 18, 19, 20, 21]⟩,
  ⟨none, .store 1 (.t 74) (.t 72), none, [22, 19, 21, 0, 1, 2, 3, 4, 5, 6, 7, 8, 9, 10, 11, 12, 13, 14, 15, 16, 17, 18, 19, 20, 21]⟩] [8, 52, 53, 54, 55, 56, 57, 58, 59, 60, 61, 62, 63, 64, 65, 66, 67, 68, 69, 70, 71, 72, 73, 74]
def R_slices_siftDownOrdered_7 : AC := .ops false [⟨some 75, .mov (.t 9), none, []⟩,
  ⟨some 8, .mov (.t 75), none, []⟩] [9, 75]
def L_slices_siftDownOrdered_1 : AC := (.block 1 (.seq R_slices_siftDownOrdered_1 (.seq (.seq R_slices_siftDownOrdered_2 (.cond (.t 16) (.exit 0) .skip)) (.seq (.seq R_slices_siftDownOrdered_3 (.cond (.t 36) R_slices_siftDownOrdered_4 .skip)) (.seq (.seq R_slices_siftDownOrdered_5 (.cond (.t 52) .ret .skip)) (.seq R_slices_siftDownOrdered_6 R_slices_siftDownOrdered_7))))))
def F_slices_siftDownOrdered : AFunc := { ntmps := 76, nargs := 4, kills := [[1, 10], [11, 12, 13], [14, 15], [16, 17, 18, 19, 20, 21, 22, 23, 24, 25, 26, 27, 28, 29, 30, 31, 32, 33, 34, 35], [36, 37, 38], [36, 39, 40, 41, 42, 43, 44, 45, 46, 47, 48, 49, 50, 51], [8, 52, 53, 54, 55, 56, 57, 58, 59, 60, 61, 62, 63, 64, 65, 66, 67, 68, 69, 70, 71, 72, 73, 74], [9, 75]], results := [], body := (.seq R_slices_siftDownOrdered_0 (.block 0 (.loop L_slices_siftDownOrdered_1))) }
abbrev k_slices_siftDownOrdered : Nat := 240
-- slices.nextPowerOfTwo
def R_slices_nextPowerOfTwo_0 : AC := .ops false [⟨some 2, .mov (.c (.int .u64 0)), none, []⟩] [2]
def R_slices_nextPowerOfTwo_1 : AC := .ops false [⟨some 3, .mov (.t 0), none, []⟩,
  ⟨some 4, .conv .u64 (.t 3), none, []⟩,
  ⟨some 5, .call (.fn 73) [.t 4], none, []⟩,
  ⟨some 6, .bin .shl (.c (.int .u64 1)) (.t 5), none, []⟩,
  ⟨some 2, .mov (.t 6), none, []⟩] [0, 3, 4, 5, 6]
def F_slices_nextPowerOfTwo : AFunc := { ntmps := 7, nargs := 1, kills := [[2], [0, 3, 4, 5, 6]], results := [.t 2], body := (.seq R_slices_nextPowerOfTwo_0 (.seq R_slices_nextPowerOfTwo_1 .ret)) }
abbrev k_slices_nextPowerOfTwo : Nat := 241
-- (*slices.xorshift).Next
def R_slices_xorshift_Next_0 : AC := .ops false [⟨some 2, .mov (.c (.int .u64 0)), none, []⟩] [2]
def R_slices_xorshift_Next_1 : AC := .ops true [⟨some 3, .mov (.t 0), none, []⟩,
  ⟨some 4, .nilchk (.t 3), none, [0]⟩,
  ⟨some 5, .load 1 true (.t 4), none, [1]⟩,
  ⟨some 6, .mov (.t 0), none, []⟩,
  ⟨some 7, .nilchk (.t 6), none, [3]⟩,
  ⟨some 8, .load 1 true (.t 7), none, [4]⟩,
  ⟨some 9, .bin .shl (.t 8) (.c (.int .u64 13)), none, [5]⟩,
  ⟨some 10, .bin .xor (.t 5) (.t 9), none, [2, 6]⟩,
  ⟨some 11, .nilchk (.t 3), none, [0, 0, 1, 2, 3, 4, 5, 6, 7]⟩,
  ⟨none, .store 1 (.t 11) (.t 10), none, [8, 7, 0, 1, 2, 3, 4, 5, 6, 7]⟩] [3, 4, 5, 6, 7, 8, 9, 10, 11]
def R_slices_xorshift_Next_2 : AC := .ops true [⟨some 12, .mov (.t 0), none, []⟩,
  ⟨some 13, .nilchk (.t 12), none, [0]⟩,
  ⟨some 14, .load 1 true (.t 13), none, [1]⟩,
  ⟨some 15, .mov (.t 0), none, []⟩,
  ⟨some 16, .nilchk (.t 15), none, [3]⟩,
  ⟨some 17, .load 1 true (.t 16), none, [4]⟩,
  ⟨some 18, .bin .shr (.t 17) (.c (.int .u64 7)), none, [5]⟩,
  ⟨some 19, .bin .xor (.t 14) (.t 18), none, [2, 6]⟩,
  ⟨some 20, .nilchk (.t 12), none, [0, 0, 1, 2, 3, 4, 5, 6, 7]⟩,
  ⟨none, .store 1 (.t 20) (.t 19), none, [8, 7, 0, 1, 2, 3, 4, 5, 6, 7]⟩] [12, 13, 14, 15, 16, 17, 18, 19, 20]
def R_slices_xorshift_Next_3 : AC := .ops true [⟨some 21, .mov (.t 0), none, []⟩,
  ⟨some 22, .nilchk (.t 21), none, [0]⟩,
  ⟨some 23, .load 1 true (.t 22), none, [1]⟩,
  ⟨some 24, .mov (.t 0), none, []⟩,
  ⟨some 25, .nilchk (.t 24), none, [3]⟩,
  ⟨some 26, .load 1 true (.t 25), none, [4]⟩,
  ⟨some 27, .bin .shl (.t 26) (.c (.int .u64 17)), none, [5]⟩,
  ⟨some 28, .bin .xor (.t 23) (.t 27), none, [2, 6]⟩,
  ⟨some 29, .nilchk (.t 21), none, [0, 0, 1, 2, 3, 4, 5, 6, 7]⟩,
  ⟨none, .store 1 (.t 29) (.t 28), none, [8, 7, 0, 1, 2, 3, 4, 5, 6, 7]⟩] [21, 22, 23, 24, 25, 26, 27, 28, 29]
def R_slices_xorshift_Next_4 : AC := .ops false [⟨some 30, .mov (.t 0), none, []⟩,
  ⟨some 31, .nilchk (.t 30), none, []⟩,
  ⟨some 32, .load 1 true (.t 31), none, []⟩,
  ⟨some 2, .mov (.t 32), none, []⟩] [0, 30, 31, 32]
def F_slices_xorshift_Next : AFunc := { ntmps := 33, nargs := 1, kills := [[2], [3, 4, 5, 6, 7, 8, 9, 10, 11], [12, 13, 14, 15, 16, 17, 18, 19, 20], [21, 22, 23, 24, 25, 26, 27, 28, 29], [0, 30, 31, 32]], results := [.t 2], body := (.seq R_slices_xorshift_Next_0 (.seq R_slices_xorshift_Next_1 (.seq R_slices_xorshift_Next_2 (.seq R_slices_xorshift_Next_3 (.seq R_slices_xorshift_Next_4 .ret))))) }
abbrev k_slices_xorshift_Next : Nat := 242
-- slices.medianAdjacentOrdered[int]
def R_slices_medianAdjacentOrdered_0 : AC := .ops false [⟨some 6, .mov (.c (.int .i64 0)), none, []⟩] [6]
def R_slices_medianAdjacentOrdered_1 : AC := .ops false [⟨some 7, .mov (.t 0), none, []⟩,
  ⟨some 8, .mov (.t 1), none, []⟩,
  ⟨some 9, .bin .sub (.t 8) (.c (.int .i64 1)), none, []⟩,
  ⟨some 10, .mov (.t 1), none, []⟩,
  ⟨some 11, .mov (.t 1), none, []⟩,
  ⟨some 12, .bin .add (.t 11) (.c (.int .i64 1)), none, []⟩,
  ⟨some 13, .mov (.t 2), none, []⟩,
  ⟨some 14, .call (.fn 244) [.t 7, .t 9, .t 10, .t 12, .t 13], none, []⟩,
  ⟨some 6, .mov (.t 14), none, []⟩] [0, 1, 2, 7, 8, 9, 10, 11, 12, 13, 14]
def F_slices_medianAdjacentOrdered : AFunc := { ntmps := 15, nargs := 3, kills := [[6], [0, 1, 2, 7, 8, 9, 10, 11, 12, 13, 14]], results := [.t 6], body := (.seq R_slices_medianAdjacentOrdered_0 (.seq R_slices_medianAdjacentOrdered_1 .ret)) }
abbrev k_slices_medianAdjacentOrdered : Nat := 243
-- slices.medianOrdered[int]
def R_slices_medianOrdered_0 : AC := .ops false [⟨some 10, .mov (.c (.int .i64 0)), none, []⟩] [10]
def R_slices_medianOrdered_1 : AC := .ops false [⟨some 12, .mov (.t 0), none, []⟩,
  ⟨some 13, .mov (.t 1), none, []⟩,
  ⟨some 14, .mov (.t 2), none, []⟩,
  ⟨some 15, .mov (.t 4), none, []⟩,
  ⟨some 16, .call (.fn 287) [.t 12, .t 13, .t 14, .t 15], none, []⟩,
  ⟨some 11, .mov (.t 16), none, []⟩,
  ⟨some 17, .ext (.t 11) 0, none, []⟩,
  ⟨some 18, .ext (.t 11) 1, none, []⟩,
  ⟨some 1, .mov (.t 17), none, []⟩,
  ⟨some 2, .mov (.t 18), none, []⟩] [11, 12, 13, 14, 15, 16, 17, 18]
def R_slices_medianOrdered_2 : AC := .ops false [⟨some 20, .mov (.t 0), none, []⟩,
  ⟨some 21, .mov (.t 2), none, []⟩,
  ⟨some 22, .mov (.t 3), none, []⟩,
  ⟨some 23, .mov (.t 4), none, []⟩,
  ⟨some 24, .call (.fn 287) [.t 20, .t 21, .t 22, .t 23], none, []⟩,
  ⟨some 19, .mov (.t 24), none, []⟩,
  ⟨some 25, .ext (.t 19) 0, none, []⟩,
  ⟨some 26, .ext (.t 19) 1, none, []⟩,
  ⟨some 2, .mov (.t 25), none, []⟩,
  ⟨some 3, .mov (.t 26), none, []⟩] [3, 19, 20, 21, 22, 23, 24, 25, 26]
def R_slices_medianOrdered_3 : AC := .ops false [⟨some 28, .mov (.t 0), none, []⟩,
  ⟨some 29, .mov (.t 1), none, []⟩,
  ⟨some 30, .mov (.t 2), none, []⟩,
  ⟨some 31, .mov (.t 4), none, []⟩,
  ⟨some 32, .call (.fn 287) [.t 28, .t 29, .t 30, .t 31], none, []⟩,
  ⟨some 27, .mov (.t 32), none, []⟩,
  ⟨some 33, .ext (.t 27) 0, none, []⟩,
  ⟨some 34, .ext (.t 27) 1, none, []⟩,
  ⟨some 1, .mov (.t 33), none, []⟩,
  ⟨some 2, .mov (.t 34), none, []⟩] [0, 1, 4, 27, 28, 29, 30, 31, 32, 33, 34]
def R_slices_medianOrdered_4 : AC := .ops false [⟨some 35, .mov (.t 2), none, []⟩,
  ⟨some 10, .mov (.t 35), none, []⟩] [2, 35]
def F_slices_medianOrdered : AFunc := { ntmps := 36, nargs := 5, kills := [[10], [11, 12, 13, 14, 15, 16, 17, 18], [3, 19, 20, 21, 22, 23, 24, 25, 26], [0, 1, 4, 27, 28, 29, 30, 31, 32, 33, 34], [2, 35]], results := [.t 10], body := (.seq R_slices_medianOrdered_0 (.seq R_slices_medianOrdered_1 (.seq R_slices_medianOrdered_2 (.seq R_slices_medianOrdered_3 (.seq R_slices_medianOrdered_4 .ret))))) }
abbrev k_slices_medianOrdered : Nat := 244
-- suffrage/nat.both
def R_nat_both_0 : AC := .ops false [⟨some 4, .mov (.c (.int .i64 0)), none, []⟩] [4]
def R_nat_both_1 : AC := .ops false [⟨some 6, .mov (.t 0), none, []⟩,
  ⟨some 7, .call (.fn 288) [.t 6], none, []⟩,
  ⟨some 5, .mov (.t 7), none, []⟩] [0, 6, 7]
def R_nat_both_2 : AC := .ops false [⟨some 8, .mov (.t 5), none, []⟩,
  ⟨some 9, .bin .neq (.t 8) (.c (.int .i64 0)), none, []⟩] [8]
def R_nat_both_3 : AC := .ops false [⟨some 10, .mov (.t 5), none, []⟩,
  ⟨some 4, .mov (.t 10), none, []⟩] [1, 5, 9, 10]
def R_nat_both_4 : AC := .ops false [⟨some 11, .mov (.t 1), none, []⟩,
  ⟨some 12, .call (.fn 288) [.t 11], none, []⟩,
  ⟨some 4, .mov (.t 12), none, []⟩] [1, 5, 9, 11, 12]
def F_nat_both : AFunc := { ntmps := 13, nargs := 2, kills := [[4], [0, 6, 7], [8], [1, 5, 9, 10], [1, 5, 9, 11, 12]], results := [.t 4], body := (.seq R_nat_both_0 (.seq (.seq R_nat_both_1 (.seq R_nat_both_2 (.cond (.t 9) (.seq R_nat_both_3 .ret) .skip))) (.seq R_nat_both_4 .ret))) }
abbrev k_nat_both : Nat := 245
-- suffrage/nat.divide
def R_nat_divide_0 : AC := .ops false [⟨some 4, .mov (.c (.lst 0 [] (some 0))), none, []⟩,
  ⟨some 5, .mov (.c (.lst 0 [] (some 0))), none, []⟩] [4, 5]
def R_nat_divide_1 : AC := .ops false [⟨some 9, .mov (.t 0), none, []⟩,
  ⟨some 10, .mov (.t 1), none, []⟩,
  ⟨some 11, .call (.fn 289) [.t 9, .t 10], none, []⟩,
  ⟨some 12, .bin .lss (.t 11) (.c (.int .i64 0)), none, []⟩,
  ⟨some 8, .mov (.t 12), none, []⟩] [9, 10, 11, 12]
def R_nat_divide_2 : AC := .ops false [⟨some 13, .mov (.t 0), none, []⟩,
  ⟨some 14, .call (.fn 149) [.t 13], none, []⟩,
  ⟨some 4, .mov (.c (.lst 0 [] (some 0))), none, []⟩,
  ⟨some 5, .mov (.t 14), none, []⟩] [0, 1, 8, 13, 14]
def R_nat_divide_3 : AC := .ops false [⟨some 16, .mov (.t 1), none, []⟩,
  ⟨some 17, .len (.t 16), none, []⟩,
  ⟨some 18, .bin .eql (.t 17) (.c (.int .i64 1)), none, []⟩,
  ⟨some 15, .mov (.t 18), none, []⟩] [8, 16, 17, 18]
def R_nat_divide_4 : AC := .ops false [⟨some 20, .mov (.t 0), none, []⟩,
  ⟨some 21, .mov (.t 1), none, []⟩,
  ⟨some 22, .ia 1 (.t 21) (.c (.int .i64 0)), none, []⟩,
  ⟨some 23, .load 1 true (.t 22), none, []⟩,
  ⟨some 24, .call (.fn 290) [.t 20, .t 23], none, []⟩,
  ⟨some 19, .mov (.t 24), none, []⟩,
  ⟨some 25, .ext (.t 19) 0, none, []⟩,
  ⟨some 26, .ext (.t 19) 1, none, []⟩,
  ⟨some 6, .mov (.t 25), none, []⟩,
  ⟨some 7, .mov (.t 26), none, []⟩] [0, 1, 15, 19, 20, 21, 22, 23, 24, 25, 26]
def R_nat_divide_5 : AC := .ops false [⟨some 27, .mov (.t 6), none, []⟩,
  ⟨some 28, .mov (.t 7), none, []⟩,
  ⟨some 29, .bslice 1 [.int .u32 0] 1 [(0, .t 28)], none, []⟩,
  ⟨some 30, .call (.fn 164) [.t 29], none, []⟩,
  ⟨some 4, .mov (.t 27), none, []⟩,
  ⟨some 5, .mov (.t 30), none, []⟩] [6, 7, 27, 28, 29, 30]
def R_nat_divide_6 : AC := .ops false [⟨some 31, .mov (.t 0), none, []⟩,
  ⟨some 32, .mov (.t 1), none, []⟩,
  ⟨some 33, .call (.fn 291) [.t 31, .t 32], none, []⟩,
  ⟨some 34, .ext (.t 33) 0, none, []⟩,
  ⟨some 35, .ext (.t 33) 1, none, []⟩,
  ⟨some 4, .mov (.t 34), none, []⟩,
  ⟨some 5, .mov (.t 35), none, []⟩] [0, 1, 15, 31, 32, 33, 34, 35]
def F_nat_divide : AFunc := { ntmps := 36, nargs := 2, kills := [[4, 5], [9, 10, 11, 12], [0, 1, 8, 13, 14], [8, 16, 17, 18], [0, 1, 15, 19, 20, 21, 22, 23, 24, 25, 26], [6, 7, 27, 28, 29, 30], [0, 1, 15, 31, 32, 33, 34, 35]], results := [.t 4, .t 5], body := (.seq R_nat_divide_0 (.seq (.block 0 (.seq R_nat_divide_1 (.cond (.t 8) (.seq R_nat_divide_2 .ret) (.seq R_nat_divide_3 (.cond (.t 15) (.seq R_nat_divide_4 (.seq R_nat_divide_5 .ret)) .skip))))) (.seq R_nat_divide_6 .ret))) }
abbrev k_nat_divide : Nat := 246
-- suffrage/ratio.Check
def R_ratio_Check_0 : AC := .ops false [⟨some 1, .box (.t 0), none, []⟩,
  ⟨some 2, .mov (.c (.int .i64 0)), none, []⟩] [0, 2]
def R_ratio_Check_1 : AC := .ops false [⟨some 5, .fa (.t 1) 1, none, []⟩,
  ⟨some 6, .load 1 true (.t 5), none, []⟩,
  ⟨some 7, .call (.fn 288) [.t 6], none, []⟩,
  ⟨some 8, .bin .neq (.t 7) (.c (.int .i64 0)), none, []⟩,
  ⟨some 9, .mov (.t 8), none, []⟩,
  ⟨some 10, .fa (.t 1) 2, some (9, false), []⟩,
  ⟨some 11, .load 1 true (.t 10), some (9, false), []⟩,
  ⟨some 12, .call (.fn 288) [.t 11], some (9, false), []⟩,
  ⟨some 13, .bin .neq (.t 12) (.c (.int .i64 0)), some (9, false), []⟩,
  ⟨some 14, .pick (.t 9) (.c (.bool true)) (.t 13), none, []⟩,
  ⟨some 15, .mov (.t 14), none, []⟩,
  ⟨some 16, .fa (.t 1) 2, some (15, false), []⟩,
  ⟨some 17, .load 1 true (.t 16), some (15, false), []⟩,
  ⟨some 18, .len (.t 17), some (15, false), []⟩,
  ⟨some 19, .bin .eql (.t 18) (.c (.int .i64 0)), some (15, false), []⟩,
  ⟨some 20, .pick (.t 15) (.c (.bool true)) (.t 19), none, []⟩,
  ⟨some 21, .mov (.t 20), none, []⟩,
  ⟨some 22, .fa (.t 1) 0, some (21, false), []⟩,
  ⟨some 23, .load 1 true (.t 22), some (21, false), []⟩,
  ⟨some 24, .mov (.t 23), some (21, false), []⟩,
  ⟨some 25, .fa (.t 1) 1, some (24, true), []⟩,
  ⟨some 26, .load 1 true (.t 25), some (24, true), []⟩,
  ⟨some 27, .len (.t 26), some (24, true), []⟩,
  ⟨some 28, .bin .eql (.t 27) (.c (.int .i64 0)), some (24, true), []⟩,
  ⟨some 29, .pick (.t 24) (.t 28) (.c (.bool false)), some (21, false), []⟩,
  ⟨some 30, .pick (.t 21) (.c (.bool true)) (.t 29), none, []⟩] [5, 6, 7, 8, 9, 10, 11, 12, 13, 14, 15, 16, 17, 18, 19, 20, 21, 22, 23, 24, 25, 26, 27, 28, 29]
def R_ratio_Check_2 : AC := .ops false [⟨some 2, .mov (.c (.int .i64 8)), none, []⟩] [1, 30]
def R_ratio_Check_3 : AC := .ops false [⟨some 32, .fa (.t 1) 1, none, []⟩,
  ⟨some 33, .load 1 true (.t 32), none, []⟩,
  ⟨some 34, .fa (.t 1) 2, none, []⟩,
  ⟨some 35, .load 1 true (.t 34), none, []⟩,
  ⟨some 36, .call (.fn 162) [.t 33, .t 35], none, []⟩,
  ⟨some 31, .mov (.t 36), none, []⟩,
  ⟨some 37, .ext (.t 31) 0, none, []⟩,
  ⟨some 38, .ext (.t 31) 1, none, []⟩,
  ⟨some 3, .mov (.t 37), none, []⟩,
  ⟨some 4, .mov (.t 38), none, []⟩] [1, 4, 30, 31, 32, 33, 34, 35, 36, 37, 38]
def R_ratio_Check_4 : AC := .ops false [⟨some 39, .mov (.t 3), none, []⟩,
  ⟨some 40, .call (.fn 79) [], none, []⟩,
  ⟨some 41, .call (.fn 292) [.t 39, .t 40], none, []⟩,
  ⟨some 42, .un .not (.t 41), none, []⟩] [3, 39, 40, 41]
def R_ratio_Check_5 : AC := .ops false [⟨some 2, .mov (.c (.int .i64 8)), none, []⟩] [42]
def R_ratio_Check_6 : AC := .ops false [⟨some 2, .mov (.c (.int .i64 0)), none, []⟩] [42]
def F_ratio_Check : AFunc := { ntmps := 43, nargs := 1, kills := [[0, 2], [5, 6, 7, 8, 9, 10, 11, 12, 13, 14, 15, 16, 17, 18, 19, 20, 21, 22, 23, 24, 25, 26, 27, 28, 29], [1, 30], [1, 4, 30, 31, 32, 33, 34, 35, 36, 37, 38], [3, 39, 40, 41], [42], [42]], results := [.t 2], body := (.seq R_ratio_Check_0 (.seq (.seq R_ratio_Check_1 (.cond (.t 30) (.seq R_ratio_Check_2 .ret) .skip)) (.seq R_ratio_Check_3 (.seq (.seq R_ratio_Check_4 (.cond (.t 42) (.seq R_ratio_Check_5 .ret) .skip)) (.seq R_ratio_Check_6 .ret))))) }
abbrev k_ratio_Check : Nat := 247
-- suffrage/ratio.side
def R_ratio_side_0 : AC := .ops false [⟨some 1, .box (.t 0), none, []⟩,
  ⟨some 2, .mov (.c (.int .i64 0)), none, []⟩] [0, 2]
def R_ratio_side_1 : AC := .ops false [⟨some 4, .fa (.t 1) 1, none, []⟩,
  ⟨some 5, .load 1 true (.t 4), none, []⟩,
  ⟨some 6, .len (.t 5), none, []⟩,
  ⟨some 7, .bin .eql (.t 6) (.c (.int .i64 0)), none, []⟩,
  ⟨some 3, .mov (.t 7), none, []⟩] [4, 5, 6, 7]
def R_ratio_side_2 : AC := .ops false [⟨some 2, .mov (.c (.int .i64 0)), none, []⟩] [1, 3]
def R_ratio_side_3 : AC := .ops false [⟨some 9, .fa (.t 1) 0, none, []⟩,
  ⟨some 10, .load 1 true (.t 9), none, []⟩,
  ⟨some 8, .mov (.t 10), none, []⟩] [1, 3, 9, 10]
def R_ratio_side_4 : AC := .ops false [⟨some 2, .mov (.c (.int .i64 (-1))), none, []⟩] [8]
def R_ratio_side_5 : AC := .ops false [⟨some 2, .mov (.c (.int .i64 1)), none, []⟩] [8]
def F_ratio_side : AFunc := { ntmps := 11, nargs := 1, kills := [[0, 2], [4, 5, 6, 7], [1, 3], [1, 3, 9, 10], [8], [8]], results := [.t 2], body := (.seq R_ratio_side_0 (.seq (.block 0 (.seq R_ratio_side_1 (.cond (.t 3) (.seq R_ratio_side_2 .ret) (.seq R_ratio_side_3 (.cond (.t 8) (.seq R_ratio_side_4 .ret) .skip))))) (.seq R_ratio_side_5 .ret))) }
abbrev k_ratio_side : Nat := 248
end Go.Proofs.YtgajemhdpjomnaaGreat
