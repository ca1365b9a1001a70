/- The functions in the abstract language, worked out by Lean. -/
import Derived.Test.YtaehkmmlacpleaaAlX
set_option linter.unusedVariables false
set_option maxHeartbeats 1000000
set_option maxRecDepth 100000
namespace Go.Proofs.Ytaehkmmlacpleaa
-- slices.IndexFunc[[]int,int]
noncomputable def T51 : { F : AFunc // CT.func [[4], [6], [], [9, 10], [11, 12, 13, 14, 15], [0, 1, 5, 7, 8, 16, 17], [5, 16, 18], [0, 1, 7, 8, 9]] Try.f51 = some F } := by
  refine ⟨?F, ?h⟩
  case h =>
    conv => lhs; cbv
theorem c51 : Cert 51 T51.1 := cert_of T51.2 Try.func51
-- slices.insertionSortOrdered[int]
noncomputable def T52 : { F : AFunc // CT.func [[8, 9], [10, 11], [7, 13, 14, 30], [12, 15], [16, 17, 18, 19, 20, 21, 22, 23, 24, 25, 26, 27, 28, 29], [31, 32], [30, 33, 34, 35, 36, 37, 38, 39, 40, 41, 42, 43, 44, 45, 46, 47, 48]] Try.f52 = some F } := by
  refine ⟨?F, ?h⟩
  case h =>
    conv => lhs; cbv
theorem c52 : Cert 52 T52.1 := cert_of T52.2 Try.func52
-- slices.heapSortOrdered[int]
noncomputable def T53 : { F : AFunc // CT.func [[11], [], [1, 2, 12, 13, 14], [15, 16, 17], [18], [20, 21], [19, 22, 23, 24, 25, 26], [8, 9, 19, 27, 28], [29], [31, 32], [30, 33, 34, 35, 36, 37, 38, 39, 40, 41, 42, 43, 44, 45, 46, 47, 48, 49, 50], [51, 52, 53, 54, 55]] Try.f53 = some F } := by
  refine ⟨?F, ?h⟩
  case h =>
    conv => lhs; cbv
theorem c53 : Cert 53 T53.1 := cert_of T53.2 Try.func53
-- slices.breakPatternsOrdered[int]
noncomputable def T54 : { F : AFunc // CT.func [[2, 11, 12, 13], [14], [15, 16, 17], [18, 19], [20, 21, 22, 23, 24, 25], [26, 27, 28, 29, 30, 31, 32], [34, 35], [33, 36, 37, 38, 39, 40], [41, 42], [43, 44, 45, 46], [10, 43, 47, 48, 49, 50, 51, 52, 53, 54, 55, 56, 57, 58, 59, 60, 61, 62, 63, 64]] Try.f54 = some F } := by
  refine ⟨?F, ?h⟩
  case h =>
    conv => lhs; cbv
theorem c54 : Cert 54 T54.1 := cert_of T54.2 Try.func54
-- slices.choosePivotOrdered[int]
noncomputable def T55 : { F : AFunc // CT.func [[6, 7], [2, 13, 14, 15], [], [16, 17, 18, 19, 20], [21, 22, 23, 24, 25], [1, 26, 27, 28, 29, 30], [31], [8, 32, 33], [34, 35, 36, 37], [38, 39, 40], [41, 42, 43], [0, 10, 12, 34, 44, 45, 46, 47, 48], [0, 8, 9, 10, 12, 32], [11, 50, 54], [52], [11, 49, 51, 53], [49, 51, 55], [11, 54, 56]] Try.f55 = some F } := by
  refine ⟨?F, ?h⟩
  case h =>
    conv => lhs; cbv
theorem c55 : Cert 55 T55.1 := cert_of T55.2 Try.func55
-- slices.reverseRangeOrdered[int]
noncomputable def T56 : { F : AFunc // CT.func [[1, 8], [2, 9, 10], [11, 12], [13, 14, 15, 16, 17, 18, 19, 20, 21, 22, 23, 24, 25, 26, 27], [28, 29], [30, 31]] Try.f56 = some F } := by
  refine ⟨?F, ?h⟩
  case h =>
    conv => lhs; cbv
theorem c56 : Cert 56 T56.1 := cert_of T56.2 Try.func56
-- slices.partialInsertionSortOrdered[int]
def R_slices_partialInsertionSortOrdered_0 : AC := .ops false [⟨some 6, .mov (.c (.bool false)), none, []⟩] [6]
def R_slices_partialInsertionSortOrdered_1 : AC := .ops false [⟨some 11, .mov (.t 1), none, []⟩,
  ⟨some 12, .bin .add (.t 11) (.c (.int .i64 1)), none, []⟩,
  ⟨some 7, .mov (.t 12), none, []⟩] [11, 12]
def R_slices_partialInsertionSortOrdered_2 : AC := .ops false [⟨some 8, .mov (.c (.int .i64 0)), none, []⟩] []
def R_slices_partialInsertionSortOrdered_3 : AC := .ops false [⟨some 13, .mov (.t 8), none, []⟩,
  ⟨some 14, .bin .lss (.t 13) (.c (.int .i64 5)), none, []⟩] [13]
def R_slices_partialInsertionSortOrdered_5 : AC := .ops true [⟨some 17, .mov (.t 7), none, []⟩,
  ⟨some 18, .mov (.t 2), none, []⟩,
  ⟨some 19, .bin .lss (.t 17) (.t 18), none, [0, 1]⟩,
  ⟨some 20, .mov (.t 19), none, [2]⟩,
  ⟨some 21, .mov (.t 0), some (20, true), [3]⟩,
  ⟨some 22, .mov (.t 7), some (20, true), [3]⟩,
  ⟨some 23, .ia 1 (.t 21) (.t 22), some (20, true), [4, 5, 3]⟩,
  ⟨some 24, .load 1 true (.t 23), some (20, true), [6, 3]⟩,
  ⟨some 25, .mov (.t 0), some (20, true), [3]⟩,
  ⟨some 26, .mov (.t 7), some (20, true), [3]⟩,
  ⟨some 27, .bin .sub (.t 26) (.c (.int .i64 1)), some (20, true), [9, 3]⟩,
  ⟨some 28, .ia 1 (.t 25) (.t 27), some (20, true), [8, 10, 3]⟩,
  ⟨some 29, .load 1 true (.t 28), some (20, true), [11, 3]⟩,
  ⟨some 30, .call (.fn 58) [.t 24, .t 29], some (20, true), [7, 12, 3, 3]⟩,
  ⟨some 31, .un .not (.t 30), some (20, true), [13, 3]⟩,
  ⟨some 32, .pick (.t 20) (.t 31) (.c (.bool false)), none, [3, 14]⟩] [14, 17, 18, 19, 20, 21, 22, 23, 24, 25, 26, 27, 28, 29, 30, 31]
def R_slices_partialInsertionSortOrdered_6 : AC := .ops false [⟨some 33, .mov (.t 7), none, []⟩,
  ⟨some 34, .bin .add (.t 33) (.c (.int .i64 1)), none, []⟩,
  ⟨some 7, .mov (.t 34), none, []⟩] [32, 33, 34]
def L_slices_partialInsertionSortOrdered_1 : AC := (.seq (.seq R_slices_partialInsertionSortOrdered_5 (.cond (.t 32) .skip (.exit 2))) (.block 3 R_slices_partialInsertionSortOrdered_6))
def R_slices_partialInsertionSortOrdered_7 : AC := .ops false [⟨some 35, .mov (.t 7), none, []⟩,
  ⟨some 36, .mov (.t 2), none, []⟩,
  ⟨some 37, .bin .eql (.t 35) (.t 36), none, []⟩] [32, 35, 36]
def R_slices_partialInsertionSortOrdered_8 : AC := .ops false [⟨some 6, .mov (.c (.bool true)), none, []⟩] [0, 1, 2, 7, 8, 37]
def R_slices_partialInsertionSortOrdered_9 : AC := .ops false [⟨some 38, .mov (.t 2), none, []⟩,
  ⟨some 39, .mov (.t 1), none, []⟩,
  ⟨some 40, .bin .sub (.t 38) (.t 39), none, []⟩,
  ⟨some 41, .bin .lss (.t 40) (.c (.int .i64 50)), none, []⟩] [37, 38, 39, 40]
def R_slices_partialInsertionSortOrdered_10 : AC := .ops false [⟨some 6, .mov (.c (.bool false)), none, []⟩] [0, 1, 2, 7, 8, 41]
def R_slices_partialInsertionSortOrdered_11 : AC := .ops true [⟨some 42, .mov (.t 0), none, []⟩,
  ⟨some 43, .mov (.t 7), none, []⟩,
  ⟨some 44, .mov (.t 0), none, []⟩,
  ⟨some 45, .mov (.t 7), none, []⟩,
  ⟨some 46, .bin .sub (.t 45) (.c (.int .i64 1)), none, [3]⟩,
  ⟨some 47, .mov (.t 0), none, []⟩,
  ⟨some 48, .mov (.t 7), none, []⟩,
  ⟨some 49, .bin .sub (.t 48) (.c (.int .i64 1)), none, [6]⟩,
  ⟨some 50, .ia 1 (.t 47) (.t 49), none, [5, 7]⟩,
  ⟨some 51, .load 1 true (.t 50), none, [8]⟩,
  ⟨some 52, .mov (.t 0), none, []⟩,
  ⟨some 53, .mov (.t 7), none, []⟩,
  ⟨some 54, .ia 1 (.t 52) (.t 53), none, [10, 11]⟩,
  ⟨some 55, .load 1 true (.t 54), none, [12]⟩,
  ⟨some 56, .ia 1 (.t 42) (.t 43), none, [0, 1, 0, 1, 5, 6, 7, 8, 9, 13]⟩,
  ⟨none, .store 1 (.t 56) (.t 51), none, [14, 9, 0, 1, 5, 6, 7, 8, 9, 13]⟩,
  ⟨some 57, .ia 1 (.t 44) (.t 46), none, [2, 4, 0, 1, 2, 3, 4, 5, 6, 7, 8, 9, 10, 11, 12, 13, 14, 15]⟩,
  ⟨none, .store 1 (.t 57) (.t 55), none, [16, 13, 15, 0, 1, 2, 3, 4, 5, 6, 7, 8, 9, 10, 11, 12, 13, 14, 15]⟩] [41, 42, 43, 44, 45, 46, 47, 48, 49, 50, 51, 52, 53, 54, 55, 56, 57]
def R_slices_partialInsertionSortOrdered_12 : AC := .ops false [⟨some 58, .mov (.t 7), none, []⟩,
  ⟨some 59, .mov (.t 1), none, []⟩,
  ⟨some 60, .bin .sub (.t 58) (.t 59), none, []⟩,
  ⟨some 61, .bin .geq (.t 60) (.c (.int .i64 2)), none, []⟩] [58, 59, 60]
def R_slices_partialInsertionSortOrdered_13 : AC := .ops false [⟨some 62, .mov (.t 7), none, []⟩,
  ⟨some 63, .bin .sub (.t 62) (.c (.int .i64 1)), none, []⟩,
  ⟨some 9, .mov (.t 63), none, []⟩] [61, 62, 63]
def R_slices_partialInsertionSortOrdered_14 : AC := .ops false [⟨some 64, .mov (.t 9), none, []⟩,
  ⟨some 65, .bin .geq (.t 64) (.c (.int .i64 1)), none, []⟩] [64]
def R_slices_partialInsertionSortOrdered_16 : AC := .ops true [⟨some 68, .mov (.t 0), none, []⟩,
  ⟨some 69, .mov (.t 9), none, []⟩,
  ⟨some 70, .ia 1 (.t 68) (.t 69), none, [0, 1]⟩,
  ⟨some 71, .load 1 true (.t 70), none, [2]⟩,
  ⟨some 72, .mov (.t 0), none, []⟩,
  ⟨some 73, .mov (.t 9), none, []⟩,
  ⟨some 74, .bin .sub (.t 73) (.c (.int .i64 1)), none, [5]⟩,
  ⟨some 75, .ia 1 (.t 72) (.t 74), none, [4, 6]⟩,
  ⟨some 76, .load 1 true (.t 75), none, [7]⟩,
  ⟨some 77, .call (.fn 58) [.t 71, .t 76], none, [3, 8]⟩,
  ⟨some 78, .un .not (.t 77), none, [9]⟩] [65, 68, 69, 70, 71, 72, 73, 74, 75, 76, 77]
def R_slices_partialInsertionSortOrdered_17 : AC := .ops true [⟨some 79, .mov (.t 0), none, []⟩,
  ⟨some 80, .mov (.t 9), none, []⟩,
  ⟨some 81, .mov (.t 0), none, []⟩,
  ⟨some 82, .mov (.t 9), none, []⟩,
  ⟨some 83, .bin .sub (.t 82) (.c (.int .i64 1)), none, [3]⟩,
  ⟨some 84, .mov (.t 0), none, []⟩,
  ⟨some 85, .mov (.t 9), none, []⟩,
  ⟨some 86, .bin .sub (.t 85) (.c (.int .i64 1)), none, [6]⟩,
  ⟨some 87, .ia 1 (.t 84) (.t 86), none, [5, 7]⟩,
  ⟨some 88, .load 1 true (.t 87), none, [8]⟩,
  ⟨some 89, .mov (.t 0), none, []⟩,
  ⟨some 90, .mov (.t 9), none, []⟩,
  ⟨some 91, .ia 1 (.t 89) (.t 90), none, [10, 11]⟩,
  ⟨some 92, .load 1 true (.t 91), none, [12]⟩,
  ⟨some 93, .ia 1 (.t 79) (.t 80), none, [0, 1, 0, 1, 5, 6, 7, 8, 9, 13]⟩,
  ⟨none, .store 1 (.t 93) (.t 88), none, [14, 9, 0, 1, 5, 6, 7, 8, 9, 13]⟩,
  ⟨some 94, .ia 1 (.t 81) (.t 83), none, [2, 4, 0, 1, 2, 3, 4, 5, 6, 7, 8, 9, 10, 11, 12, 13, 14, 15]⟩,
  ⟨none, .store 1 (.t 94) (.t 92), none, [16, 13, 15, 0, 1, 2, 3, 4, 5, 6, 7, 8, 9, 10, 11, 12, 13, 14, 15]⟩] [78, 79, 80, 81, 82, 83, 84, 85, 86, 87, 88, 89, 90, 91, 92, 93, 94]
def R_slices_partialInsertionSortOrdered_15 : AC := .ops false [⟨some 66, .mov (.t 9), none, []⟩,
  ⟨some 67, .bin .sub (.t 66) (.c (.int .i64 1)), none, []⟩,
  ⟨some 9, .mov (.t 67), none, []⟩] [66, 67]
def L_slices_partialInsertionSortOrdered_2 : AC := (.seq (.seq R_slices_partialInsertionSortOrdered_14 (.cond (.t 65) .skip (.exit 4))) (.seq (.block 5 (.seq (.seq R_slices_partialInsertionSortOrdered_16 (.cond (.t 78) (.exit 4) .skip)) R_slices_partialInsertionSortOrdered_17)) R_slices_partialInsertionSortOrdered_15))
def R_slices_partialInsertionSortOrdered_18 : AC := .ops false [⟨some 95, .mov (.t 2), none, []⟩,
  ⟨some 96, .mov (.t 7), none, []⟩,
  ⟨some 97, .bin .sub (.t 95) (.t 96), none, []⟩,
  ⟨some 98, .bin .geq (.t 97) (.c (.int .i64 2)), none, []⟩] [9, 61, 65, 78, 95, 96, 97]
def R_slices_partialInsertionSortOrdered_19 : AC := .ops false [⟨some 99, .mov (.t 7), none, []⟩,
  ⟨some 100, .bin .add (.t 99) (.c (.int .i64 1)), none, []⟩,
  ⟨some 10, .mov (.t 100), none, []⟩] [98, 99, 100]
def R_slices_partialInsertionSortOrdered_20 : AC := .ops false [⟨some 101, .mov (.t 10), none, []⟩,
  ⟨some 102, .mov (.t 2), none, []⟩,
  ⟨some 103, .bin .lss (.t 101) (.t 102), none, []⟩] [101, 102]
def R_slices_partialInsertionSortOrdered_22 : AC := .ops true [⟨some 106, .mov (.t 0), none, []⟩,
  ⟨some 107, .mov (.t 10), none, []⟩,
  ⟨some 108, .ia 1 (.t 106) (.t 107), none, [0, 1]⟩,
  ⟨some 109, .load 1 true (.t 108), none, [2]⟩,
  ⟨some 110, .mov (.t 0), none, []⟩,
  ⟨some 111, .mov (.t 10), none, []⟩,
  ⟨some 112, .bin .sub (.t 111) (.c (.int .i64 1)), none, [5]⟩,
  ⟨some 113, .ia 1 (.t 110) (.t 112), none, [4, 6]⟩,
  ⟨some 114, .load 1 true (.t 113), none, [7]⟩,
  ⟨some 115, .call (.fn 58) [.t 109, .t 114], none, [3, 8]⟩,
  ⟨some 116, .un .not (.t 115), none, [9]⟩] [103, 106, 107, 108, 109, 110, 111, 112, 113, 114, 115]
def R_slices_partialInsertionSortOrdered_23 : AC := .ops true [⟨some 117, .mov (.t 0), none, []⟩,
  ⟨some 118, .mov (.t 10), none, []⟩,
  ⟨some 119, .mov (.t 0), none, []⟩,
  ⟨some 120, .mov (.t 10), none, []⟩,
  ⟨some 121, .bin .sub (.t 120) (.c (.int .i64 1)), none, [3]⟩,
  ⟨some 122, .mov (.t 0), none, []⟩,
  ⟨some 123, .mov (.t 10), none, []⟩,
  ⟨some 124, .bin .sub (.t 123) (.c (.int .i64 1)), none, [6]⟩,
  ⟨some 125, .ia 1 (.t 122) (.t 124), none, [5, 7]⟩,
  ⟨some 126, .load 1 true (.t 125), none, [8]⟩,
  ⟨some 127, .mov (.t 0), none, []⟩,
  ⟨some 128, .mov (.t 10), none, []⟩,
  ⟨some 129, .ia 1 (.t 127) (.t 128), none, [10, 11]⟩,
  ⟨some 130, .load 1 true (.t 129), none, [12]⟩,
  ⟨some 131, .ia 1 (.t 117) (.t 118), none, [0, 1, 0, 1, 5, 6, 7, 8, 9, 13]⟩,
  ⟨none, .store 1 (.t 131) (.t 126), none, [14, 9, 0, 1, 5, 6, 7, 8, 9, 13]⟩,
  ⟨some 132, .ia 1 (.t 119) (.t 121), none, [2, 4, 0, 1, 2, 3, 4, 5, 6, 7, 8, 9, 10, 11, 12, 13, 14, 15]⟩,
  ⟨none, .store 1 (.t 132) (.t 130), none, [16, 13, 15, 0, 1, 2, 3, 4, 5, 6, 7, 8, 9, 10, 11, 12, 13, 14, 15]⟩] [116, 117, 118, 119, 120, 121, 122, 123, 124, 125, 126, 127, 128, 129, 130, 131, 132]
def R_slices_partialInsertionSortOrdered_21 : AC := .ops false [⟨some 104, .mov (.t 10), none, []⟩,
  ⟨some 105, .bin .add (.t 104) (.c (.int .i64 1)), none, []⟩,
  ⟨some 10, .mov (.t 105), none, []⟩] [104, 105]
def L_slices_partialInsertionSortOrdered_3 : AC := (.seq (.seq R_slices_partialInsertionSortOrdered_20 (.cond (.t 103) .skip (.exit 6))) (.seq (.block 7 (.seq (.seq R_slices_partialInsertionSortOrdered_22 (.cond (.t 116) (.exit 6) .skip)) R_slices_partialInsertionSortOrdered_23)) R_slices_partialInsertionSortOrdered_21))
def R_slices_partialInsertionSortOrdered_4 : AC := .ops false [⟨some 15, .mov (.t 8), none, []⟩,
  ⟨some 16, .bin .add (.t 15) (.c (.int .i64 1)), none, []⟩,
  ⟨some 8, .mov (.t 16), none, []⟩] [10, 15, 16, 98, 103, 116]
def L_slices_partialInsertionSortOrdered_4 : AC := (.seq (.seq R_slices_partialInsertionSortOrdered_3 (.cond (.t 14) .skip (.exit 0))) (.seq (.block 1 (.seq (.block 2 (.loop L_slices_partialInsertionSortOrdered_1)) (.seq (.seq R_slices_partialInsertionSortOrdered_7 (.cond (.t 37) (.seq R_slices_partialInsertionSortOrdered_8 .ret) .skip)) (.seq (.seq R_slices_partialInsertionSortOrdered_9 (.cond (.t 41) (.seq R_slices_partialInsertionSortOrdered_10 .ret) .skip)) (.seq R_slices_partialInsertionSortOrdered_11 (.seq (.seq R_slices_partialInsertionSortOrdered_12 (.cond (.t 61) (.seq R_slices_partialInsertionSortOrdered_13 (.block 4 (.loop L_slices_partialInsertionSortOrdered_2))) .skip)) (.seq R_slices_partialInsertionSortOrdered_18 (.cond (.t 98) (.seq R_slices_partialInsertionSortOrdered_19 (.block 6 (.loop L_slices_partialInsertionSortOrdered_3))) .skip)))))))) R_slices_partialInsertionSortOrdered_4))
def R_slices_partialInsertionSortOrdered_24 : AC := .ops false [⟨some 6, .mov (.c (.bool false)), none, []⟩] [0, 1, 2, 7, 8, 14]
def F_slices_partialInsertionSortOrdered : AFunc := { ntmps := 133, nargs := 3, kills := [[6], [11, 12], [], [13], [10, 15, 16, 98, 103, 116], [14, 17, 18, 19, 20, 21, 22, 23, 24, 25, 26, 27, 28, 29, 30, 31], [32, 33, 34], [32, 35, 36], [0, 1, 2, 7, 8, 37], [37, 38, 39, 40], [0, 1, 2, 7, 8, 41], [41, 42, 43, 44, 45, 46, 47, 48, 49, 50, 51, 52, 53, 54, 55, 56, 57], [58, 59, 60], [61, 62, 63], [64], [66, 67], [65, 68, 69, 70, 71, 72, 73, 74, 75, 76, 77], [78, 79, 80, 81, 82, 83, 84, 85, 86, 87, 88, 89, 90, 91, 92, 93, 94], [9, 61, 65, 78, 95, 96, 97], [98, 99, 100], [101, 102], [104, 105], [103, 106, 107, 108, 109, 110, 111, 112, 113, 114, 115], [116, 117, 118, 119, 120, 121, 122, 123, 124, 125, 126, 127, 128, 129, 130, 131, 132], [0, 1, 2, 7, 8, 14]], results := [.t 6], body := (.seq R_slices_partialInsertionSortOrdered_0 (.seq R_slices_partialInsertionSortOrdered_1 (.seq (.seq R_slices_partialInsertionSortOrdered_2 (.block 0 (.loop L_slices_partialInsertionSortOrdered_4))) (.seq R_slices_partialInsertionSortOrdered_24 .ret)))) }
noncomputable def T57 : { F : AFunc // CT.func [[6], [11, 12], [], [13], [10, 15, 16, 98, 103, 116], [14, 17, 18, 19, 20, 21, 22, 23, 24, 25, 26, 27, 28, 29, 30, 31], [32, 33, 34], [32, 35, 36], [0, 1, 2, 7, 8, 37], [37, 38, 39, 40], [0, 1, 2, 7, 8, 41], [41, 42, 43, 44, 45, 46, 47, 48, 49, 50, 51, 52, 53, 54, 55, 56, 57], [58, 59, 60], [61, 62, 63], [64], [66, 67], [65, 68, 69, 70, 71, 72, 73, 74, 75, 76, 77], [78, 79, 80, 81, 82, 83, 84, 85, 86, 87, 88, 89, 90, 91, 92, 93, 94], [9, 61, 65, 78, 95, 96, 97], [98, 99, 100], [101, 102], [104, 105], [103, 106, 107, 108, 109, 110, 111, 112, 113, 114, 115], [116, 117, 118, 119, 120, 121, 122, 123, 124, 125, 126, 127, 128, 129, 130, 131, 132], [0, 1, 2, 7, 8, 14]] Try.f57 = some F } := ⟨F_slices_partialInsertionSortOrdered, by kernel_rfl⟩
theorem c57 : Cert 57 T57.1 := cert_of T57.2 Try.func57
-- cmp.Less[int]
noncomputable def T58 : { F : AFunc // CT.func [[4], [0, 1, 5, 6, 7, 8, 9, 10, 11, 12, 13, 14, 15, 16]] Try.f58 = some F } := by
  refine ⟨?F, ?h⟩
  case h =>
    conv => lhs; cbv
theorem c58 : Cert 58 T58.1 := cert_of T58.2 Try.func58
-- slices.partitionEqualOrdered[int]
noncomputable def T59 : { F : AFunc // CT.func [[8], [3, 11, 12, 13, 14, 15, 16, 17, 18, 19, 20, 21, 22, 23, 24], [2, 25, 26, 27, 28], [29, 30, 31, 32, 33, 34, 35, 36, 37, 38, 39, 40, 41, 42], [43, 44, 45], [43, 46, 47, 48, 49, 50, 51, 52, 53, 54, 55, 56, 57, 58], [59, 60, 61], [59, 62, 63], [64, 65, 66, 67, 68, 69, 70, 71, 72, 73, 74, 75, 76, 77, 78], [79, 80], [81, 82], [0, 1, 9, 10, 64, 83]] Try.f59 = some F } := by
  refine ⟨?F, ?h⟩
  case h =>
    conv => lhs; cbv
theorem c59 : Cert 59 T59.1 := cert_of T59.2 Try.func59
-- slices.partitionOrdered[int]
def R_slices_partitionOrdered_0 : AC := .ops false [⟨some 8, .mov (.c (.int .i64 0)), none, []⟩,
  ⟨some 9, .mov (.c (.bool false)), none, []⟩] [8, 9]
def R_slices_partitionOrdered_1 : AC := .ops true [⟨some 12, .mov (.t 0), none, []⟩,
  ⟨some 13, .mov (.t 1), none, []⟩,
  ⟨some 14, .mov (.t 0), none, []⟩,
  ⟨some 15, .mov (.t 3), none, []⟩,
  ⟨some 16, .mov (.t 0), none, []⟩,
  ⟨some 17, .mov (.t 3), none, []⟩,
  ⟨some 18, .ia 1 (.t 16) (.t 17), none, [4, 5]⟩,
  ⟨some 19, .load 1 true (.t 18), none, [6]⟩,
  ⟨some 20, .mov (.t 0), none, []⟩,
  ⟨some 21, .mov (.t 1), none, []⟩,
  ⟨some 22, .ia 1 (.t 20) (.t 21), none, [8, 9]⟩,
  ⟨some 23, .load 1 true (.t 22), none, [10]⟩,
  ⟨some 24, .ia 1 (.t 12) (.t 13), none, [0, 1, 0, 1, 4, 5, 6, 7, 11]⟩,
  ⟨none, .store 1 (.t 24) (.t 19), none, [12, 7, 0, 1, 4, 5, 6, 7, 11]⟩,
  ⟨some 25, .ia 1 (.t 14) (.t 15), none, [2, 3, 0, 1, 2, 3, 4, 5, 6, 7, 8, 9, 10, 11, 12, 13]⟩,
  ⟨none, .store 1 (.t 25) (.t 23), none, [14, 11, 13, 0, 1, 2, 3, 4, 5, 6, 7, 8, 9, 10, 11, 12, 13]⟩] [3, 12, 13, 14, 15, 16, 17, 18, 19, 20, 21, 22, 23, 24, 25]
def R_slices_partitionOrdered_2 : AC := .ops false [⟨some 26, .mov (.t 1), none, []⟩,
  ⟨some 27, .bin .add (.t 26) (.c (.int .i64 1)), none, []⟩,
  ⟨some 28, .mov (.t 2), none, []⟩,
  ⟨some 29, .bin .sub (.t 28) (.c (.int .i64 1)), none, []⟩,
  ⟨some 10, .mov (.t 27), none, []⟩,
  ⟨some 11, .mov (.t 29), none, []⟩] [2, 26, 27, 28, 29]
def R_slices_partitionOrdered_3 : AC := .ops true [⟨some 30, .mov (.t 10), none, []⟩,
  ⟨some 31, .mov (.t 11), none, []⟩,
  ⟨some 32, .bin .leq (.t 30) (.t 31), none, [0, 1]⟩,
  ⟨some 33, .mov (.t 32), none, [2]⟩,
  ⟨some 34, .mov (.t 0), some (33, true), [3]⟩,
  ⟨some 35, .mov (.t 10), some (33, true), [3]⟩,
  ⟨some 36, .ia 1 (.t 34) (.t 35), some (33, true), [4, 5, 3]⟩,
  ⟨some 37, .load 1 true (.t 36), some (33, true), [6, 3]⟩,
  ⟨some 38, .mov (.t 0), some (33, true), [3]⟩,
  ⟨some 39, .mov (.t 1), some (33, true), [3]⟩,
  ⟨some 40, .ia 1 (.t 38) (.t 39), some (33, true), [8, 9, 3]⟩,
  ⟨some 41, .load 1 true (.t 40), some (33, true), [10, 3]⟩,
  ⟨some 42, .call (.fn 58) [.t 37, .t 41], some (33, true), [7, 11, 3, 3]⟩,
  ⟨some 43, .pick (.t 33) (.t 42) (.c (.bool false)), none, [3, 12]⟩] [30, 31, 32, 33, 34, 35, 36, 37, 38, 39, 40, 41, 42]
def R_slices_partitionOrdered_4 : AC := .ops false [⟨some 44, .mov (.t 10), none, []⟩,
  ⟨some 45, .bin .add (.t 44) (.c (.int .i64 1)), none, []⟩,
  ⟨some 10, .mov (.t 45), none, []⟩] [43, 44, 45]
def L_slices_partitionOrdered_1 : AC := (.seq (.seq R_slices_partitionOrdered_3 (.cond (.t 43) .skip (.exit 0))) (.block 1 R_slices_partitionOrdered_4))
def R_slices_partitionOrdered_5 : AC := .ops true [⟨some 46, .mov (.t 10), none, []⟩,
  ⟨some 47, .mov (.t 11), none, []⟩,
  ⟨some 48, .bin .leq (.t 46) (.t 47), none, [0, 1]⟩,
  ⟨some 49, .mov (.t 48), none, [2]⟩,
  ⟨some 50, .mov (.t 0), some (49, true), [3]⟩,
  ⟨some 51, .mov (.t 11), some (49, true), [3]⟩,
  ⟨some 52, .ia 1 (.t 50) (.t 51), some (49, true), [4, 5, 3]⟩,
  ⟨some 53, .load 1 true (.t 52), some (49, true), [6, 3]⟩,
  ⟨some 54, .mov (.t 0), some (49, true), [3]⟩,
  ⟨some 55, .mov (.t 1), some (49, true), [3]⟩,
  ⟨some 56, .ia 1 (.t 54) (.t 55), some (49, true), [8, 9, 3]⟩,
  ⟨some 57, .load 1 true (.t 56), some (49, true), [10, 3]⟩,
  ⟨some 58, .call (.fn 58) [.t 53, .t 57], some (49, true), [7, 11, 3, 3]⟩,
  ⟨some 59, .un .not (.t 58), some (49, true), [12, 3]⟩,
  ⟨some 60, .pick (.t 49) (.t 59) (.c (.bool false)), none, [3, 13]⟩] [43, 46, 47, 48, 49, 50, 51, 52, 53, 54, 55, 56, 57, 58, 59]
def R_slices_partitionOrdered_6 : AC := .ops false [⟨some 61, .mov (.t 11), none, []⟩,
  ⟨some 62, .bin .sub (.t 61) (.c (.int .i64 1)), none, []⟩,
  ⟨some 11, .mov (.t 62), none, []⟩] [60, 61, 62]
def L_slices_partitionOrdered_2 : AC := (.seq (.seq R_slices_partitionOrdered_5 (.cond (.t 60) .skip (.exit 2))) (.block 3 R_slices_partitionOrdered_6))
def R_slices_partitionOrdered_7 : AC := .ops false [⟨some 63, .mov (.t 10), none, []⟩,
  ⟨some 64, .mov (.t 11), none, []⟩,
  ⟨some 65, .bin .gtr (.t 63) (.t 64), none, []⟩] [60, 63, 64]
def R_slices_partitionOrdered_8 : AC := .ops true [⟨some 66, .mov (.t 0), none, []⟩,
  ⟨some 67, .mov (.t 11), none, []⟩,
  ⟨some 68, .mov (.t 0), none, []⟩,
  ⟨some 69, .mov (.t 1), none, []⟩,
  ⟨some 70, .mov (.t 0), none, []⟩,
  ⟨some 71, .mov (.t 1), none, []⟩,
  ⟨some 72, .ia 1 (.t 70) (.t 71), none, [4, 5]⟩,
  ⟨some 73, .load 1 true (.t 72), none, [6]⟩,
  ⟨some 74, .mov (.t 0), none, []⟩,
  ⟨some 75, .mov (.t 11), none, []⟩,
  ⟨some 76, .ia 1 (.t 74) (.t 75), none, [8, 9]⟩,
  ⟨some 77, .load 1 true (.t 76), none, [10]⟩,
  ⟨some 78, .ia 1 (.t 66) (.t 67), none, [0, 1, 0, 1, 4, 5, 6, 7, 11]⟩,
  ⟨none, .store 1 (.t 78) (.t 73), none, [12, 7, 0, 1, 4, 5, 6, 7, 11]⟩,
  ⟨some 79, .ia 1 (.t 68) (.t 69), none, [2, 3, 0, 1, 2, 3, 4, 5, 6, 7, 8, 9, 10, 11, 12, 13]⟩,
  ⟨none, .store 1 (.t 79) (.t 77), none, [14, 11, 13, 0, 1, 2, 3, 4, 5, 6, 7, 8, 9, 10, 11, 12, 13]⟩] [0, 1, 10, 65, 66, 67, 68, 69, 70, 71, 72, 73, 74, 75, 76, 77, 78, 79]
def R_slices_partitionOrdered_9 : AC := .ops false [⟨some 80, .mov (.t 11), none, []⟩,
  ⟨some 8, .mov (.t 80), none, []⟩,
  ⟨some 9, .mov (.c (.bool true)), none, []⟩] [11, 80]
def R_slices_partitionOrdered_10 : AC := .ops true [⟨some 81, .mov (.t 0), none, []⟩,
  ⟨some 82, .mov (.t 10), none, []⟩,
  ⟨some 83, .mov (.t 0), none, []⟩,
  ⟨some 84, .mov (.t 11), none, []⟩,
  ⟨some 85, .mov (.t 0), none, []⟩,
  ⟨some 86, .mov (.t 11), none, []⟩,
  ⟨some 87, .ia 1 (.t 85) (.t 86), none, [4, 5]⟩,
  ⟨some 88, .load 1 true (.t 87), none, [6]⟩,
  ⟨some 89, .mov (.t 0), none, []⟩,
  ⟨some 90, .mov (.t 10), none, []⟩,
  ⟨some 91, .ia 1 (.t 89) (.t 90), none, [8, 9]⟩,
  ⟨some 92, .load 1 true (.t 91), none, [10]⟩,
  ⟨some 93, .ia 1 (.t 81) (.t 82), none, [0, 1, 0, 1, 4, 5, 6, 7, 11]⟩,
  ⟨none, .store 1 (.t 93) (.t 88), none, [12, 7, 0, 1, 4, 5, 6, 7, 11]⟩,
  ⟨some 94, .ia 1 (.t 83) (.t 84), none, [2, 3, 0, 1, 2, 3, 4, 5, 6, 7, 8, 9, 10, 11, 12, 13]⟩,
  ⟨none, .store 1 (.t 94) (.t 92), none, [14, 11, 13, 0, 1, 2, 3, 4, 5, 6, 7, 8, 9, 10, 11, 12, 13]⟩] [65, 81, 82, 83, 84, 85, 86, 87, 88, 89, 90, 91, 92, 93, 94]
def R_slices_partitionOrdered_11 : AC := .ops false [⟨some 95, .mov (.t 10), none, []⟩,
  ⟨some 96, .bin .add (.t 95) (.c (.int .i64 1)), none, []⟩,
  ⟨some 10, .mov (.t 96), none, []⟩] [95, 96]
def R_slices_partitionOrdered_12 : AC := .ops false [⟨some 97, .mov (.t 11), none, []⟩,
  ⟨some 98, .bin .sub (.t 97) (.c (.int .i64 1)), none, []⟩,
  ⟨some 11, .mov (.t 98), none, []⟩] [97, 98]
def R_slices_partitionOrdered_13 : AC := .ops true [⟨some 99, .mov (.t 10), none, []⟩,
  ⟨some 100, .mov (.t 11), none, []⟩,
  ⟨some 101, .bin .leq (.t 99) (.t 100), none, [0, 1]⟩,
  ⟨some 102, .mov (.t 101), none, [2]⟩,
  ⟨some 103, .mov (.t 0), some (102, true), [3]⟩,
  ⟨some 104, .mov (.t 10), some (102, true), [3]⟩,
  ⟨some 105, .ia 1 (.t 103) (.t 104), some (102, true), [4, 5, 3]⟩,
  ⟨some 106, .load 1 true (.t 105), some (102, true), [6, 3]⟩,
  ⟨some 107, .mov (.t 0), some (102, true), [3]⟩,
  ⟨some 108, .mov (.t 1), some (102, true), [3]⟩,
  ⟨some 109, .ia 1 (.t 107) (.t 108), some (102, true), [8, 9, 3]⟩,
  ⟨some 110, .load 1 true (.t 109), some (102, true), [10, 3]⟩,
  ⟨some 111, .call (.fn 58) [.t 106, .t 110], some (102, true), [7, 11, 3, 3]⟩,
  ⟨some 112, .pick (.t 102) (.t 111) (.c (.bool false)), none, [3, 12]⟩] [99, 100, 101, 102, 103, 104, 105, 106, 107, 108, 109, 110, 111]
def R_slices_partitionOrdered_14 : AC := .ops false [⟨some 113, .mov (.t 10), none, []⟩,
  ⟨some 114, .bin .add (.t 113) (.c (.int .i64 1)), none, []⟩,
  ⟨some 10, .mov (.t 114), none, []⟩] [112, 113, 114]
def L_slices_partitionOrdered_3 : AC := (.seq (.seq R_slices_partitionOrdered_13 (.cond (.t 112) .skip (.exit 6))) (.block 7 R_slices_partitionOrdered_14))
def R_slices_partitionOrdered_15 : AC := .ops true [⟨some 115, .mov (.t 10), none, []⟩,
  ⟨some 116, .mov (.t 11), none, []⟩,
  ⟨some 117, .bin .leq (.t 115) (.t 116), none, [0, 1]⟩,
  ⟨some 118, .mov (.t 117), none, [2]⟩,
  ⟨some 119, .mov (.t 0), some (118, true), [3]⟩,
  ⟨some 120, .mov (.t 11), some (118, true), [3]⟩,
  ⟨some 121, .ia 1 (.t 119) (.t 120), some (118, true), [4, 5, 3]⟩,
  ⟨some 122, .load 1 true (.t 121), some (118, true), [6, 3]⟩,
  ⟨some 123, .mov (.t 0), some (118, true), [3]⟩,
  ⟨some 124, .mov (.t 1), some (118, true), [3]⟩,
  ⟨some 125, .ia 1 (.t 123) (.t 124), some (118, true), [8, 9, 3]⟩,
  ⟨some 126, .load 1 true (.t 125), some (118, true), [10, 3]⟩,
  ⟨some 127, .call (.fn 58) [.t 122, .t 126], some (118, true), [7, 11, 3, 3]⟩,
  ⟨some 128, .un .not (.t 127), some (118, true), [12, 3]⟩,
  ⟨some 129, .pick (.t 118) (.t 128) (.c (.bool false)), none, [3, 13]⟩] [112, 115, 116, 117, 118, 119, 120, 121, 122, 123, 124, 125, 126, 127, 128]
def R_slices_partitionOrdered_16 : AC := .ops false [⟨some 130, .mov (.t 11), none, []⟩,
  ⟨some 131, .bin .sub (.t 130) (.c (.int .i64 1)), none, []⟩,
  ⟨some 11, .mov (.t 131), none, []⟩] [129, 130, 131]
def L_slices_partitionOrdered_4 : AC := (.seq (.seq R_slices_partitionOrdered_15 (.cond (.t 129) .skip (.exit 8))) (.block 9 R_slices_partitionOrdered_16))
def R_slices_partitionOrdered_17 : AC := .ops false [⟨some 132, .mov (.t 10), none, []⟩,
  ⟨some 133, .mov (.t 11), none, []⟩,
  ⟨some 134, .bin .gtr (.t 132) (.t 133), none, []⟩] [129, 132, 133]
def R_slices_partitionOrdered_18 : AC := .ops true [⟨some 135, .mov (.t 0), none, []⟩,
  ⟨some 136, .mov (.t 10), none, []⟩,
  ⟨some 137, .mov (.t 0), none, []⟩,
  ⟨some 138, .mov (.t 11), none, []⟩,
  ⟨some 139, .mov (.t 0), none, []⟩,
  ⟨some 140, .mov (.t 11), none, []⟩,
  ⟨some 141, .ia 1 (.t 139) (.t 140), none, [4, 5]⟩,
  ⟨some 142, .load 1 true (.t 141), none, [6]⟩,
  ⟨some 143, .mov (.t 0), none, []⟩,
  ⟨some 144, .mov (.t 10), none, []⟩,
  ⟨some 145, .ia 1 (.t 143) (.t 144), none, [8, 9]⟩,
  ⟨some 146, .load 1 true (.t 145), none, [10]⟩,
  ⟨some 147, .ia 1 (.t 135) (.t 136), none, [0, 1, 0, 1, 4, 5, 6, 7, 11]⟩,
  ⟨none, .store 1 (.t 147) (.t 142), none, [12, 7, 0, 1, 4, 5, 6, 7, 11]⟩,
  ⟨some 148, .ia 1 (.t 137) (.t 138), none, [2, 3, 0, 1, 2, 3, 4, 5, 6, 7, 8, 9, 10, 11, 12, 13]⟩,
  ⟨none, .store 1 (.t 148) (.t 146), none, [14, 11, 13, 0, 1, 2, 3, 4, 5, 6, 7, 8, 9, 10, 11, 12, 13]⟩] [134, 135, 136, 137, 138, 139, 140, 141, 142, 143, 144, 145, 146, 147, 148]
def R_slices_partitionOrdered_19 : AC := .ops false [⟨some 149, .mov (.t 10), none, []⟩,
  ⟨some 150, .bin .add (.t 149) (.c (.int .i64 1)), none, []⟩,
  ⟨some 10, .mov (.t 150), none, []⟩] [149, 150]
def R_slices_partitionOrdered_20 : AC := .ops false [⟨some 151, .mov (.t 11), none, []⟩,
  ⟨some 152, .bin .sub (.t 151) (.c (.int .i64 1)), none, []⟩,
  ⟨some 11, .mov (.t 152), none, []⟩] [151, 152]
def L_slices_partitionOrdered_5 : AC := (.block 5 (.seq (.block 6 (.loop L_slices_partitionOrdered_3)) (.seq (.block 8 (.loop L_slices_partitionOrdered_4)) (.seq (.seq R_slices_partitionOrdered_17 (.cond (.t 134) (.exit 4) .skip)) (.seq R_slices_partitionOrdered_18 (.seq R_slices_partitionOrdered_19 R_slices_partitionOrdered_20))))))
def R_slices_partitionOrdered_21 : AC := .ops true [⟨some 153, .mov (.t 0), none, []⟩,
  ⟨some 154, .mov (.t 11), none, []⟩,
  ⟨some 155, .mov (.t 0), none, []⟩,
  ⟨some 156, .mov (.t 1), none, []⟩,
  ⟨some 157, .mov (.t 0), none, []⟩,
  ⟨some 158, .mov (.t 1), none, []⟩,
  ⟨some 159, .ia 1 (.t 157) (.t 158), none, [4, 5]⟩,
  ⟨some 160, .load 1 true (.t 159), none, [6]⟩,
  ⟨some 161, .mov (.t 0), none, []⟩,
  ⟨some 162, .mov (.t 11), none, []⟩,
  ⟨some 163, .ia 1 (.t 161) (.t 162), none, [8, 9]⟩,
  ⟨some 164, .load 1 true (.t 163), none, [10]⟩,
  ⟨some 165, .ia 1 (.t 153) (.t 154), none, [0, 1, 0, 1, 4, 5, 6, 7, 11]⟩,
  ⟨none, .store 1 (.t 165) (.t 160), none, [12, 7, 0, 1, 4, 5, 6, 7, 11]⟩,
  ⟨some 166, .ia 1 (.t 155) (.t 156), none, [2, 3, 0, 1, 2, 3, 4, 5, 6, 7, 8, 9, 10, 11, 12, 13]⟩,
  ⟨none, .store 1 (.t 166) (.t 164), none, [14, 11, 13, 0, 1, 2, 3, 4, 5, 6, 7, 8, 9, 10, 11, 12, 13]⟩] [0, 1, 10, 134, 153, 154, 155, 156, 157, 158, 159, 160, 161, 162, 163, 164, 165, 166]
def R_slices_partitionOrdered_22 : AC := .ops false [⟨some 167, .mov (.t 11), none, []⟩,
  ⟨some 8, .mov (.t 167), none, []⟩,
  ⟨some 9, .mov (.c (.bool false)), none, []⟩] [11, 167]
def F_slices_partitionOrdered : AFunc := { ntmps := 168, nargs := 4, kills := [[8, 9], [3, 12, 13, 14, 15, 16, 17, 18, 19, 20, 21, 22, 23, 24, 25], [2, 26, 27, 28, 29], [30, 31, 32, 33, 34, 35, 36, 37, 38, 39, 40, 41, 42], [43, 44, 45], [43, 46, 47, 48, 49, 50, 51, 52, 53, 54, 55, 56, 57, 58, 59], [60, 61, 62], [60, 63, 64], [0, 1, 10, 65, 66, 67, 68, 69, 70, 71, 72, 73, 74, 75, 76, 77, 78, 79], [11, 80], [65, 81, 82, 83, 84, 85, 86, 87, 88, 89, 90, 91, 92, 93, 94], [95, 96], [97, 98], [99, 100, 101, 102, 103, 104, 105, 106, 107, 108, 109, 110, 111], [112, 113, 114], [112, 115, 116, 117, 118, 119, 120, 121, 122, 123, 124, 125, 126, 127, 128], [129, 130, 131], [129, 132, 133], [134, 135, 136, 137, 138, 139, 140, 141, 142, 143, 144, 145, 146, 147, 148], [149, 150], [151, 152], [0, 1, 10, 134, 153, 154, 155, 156, 157, 158, 159, 160, 161, 162, 163, 164, 165, 166], [11, 167]], results := [.t 8, .t 9], body := (.seq R_slices_partitionOrdered_0 (.seq R_slices_partitionOrdered_1 (.seq R_slices_partitionOrdered_2 (.seq (.block 0 (.loop L_slices_partitionOrdered_1)) (.seq (.block 2 (.loop L_slices_partitionOrdered_2)) (.seq (.seq R_slices_partitionOrdered_7 (.cond (.t 65) (.seq R_slices_partitionOrdered_8 (.seq R_slices_partitionOrdered_9 .ret)) .skip)) (.seq R_slices_partitionOrdered_10 (.seq R_slices_partitionOrdered_11 (.seq R_slices_partitionOrdered_12 (.seq (.block 4 (.loop L_slices_partitionOrdered_5)) (.seq R_slices_partitionOrdered_21 (.seq R_slices_partitionOrdered_22 .ret)))))))))))) }
noncomputable def T60 : { F : AFunc // CT.func [[8, 9], [3, 12, 13, 14, 15, 16, 17, 18, 19, 20, 21, 22, 23, 24, 25], [2, 26, 27, 28, 29], [30, 31, 32, 33, 34, 35, 36, 37, 38, 39, 40, 41, 42], [43, 44, 45], [43, 46, 47, 48, 49, 50, 51, 52, 53, 54, 55, 56, 57, 58, 59], [60, 61, 62], [60, 63, 64], [0, 1, 10, 65, 66, 67, 68, 69, 70, 71, 72, 73, 74, 75, 76, 77, 78, 79], [11, 80], [65, 81, 82, 83, 84, 85, 86, 87, 88, 89, 90, 91, 92, 93, 94], [95, 96], [97, 98], [99, 100, 101, 102, 103, 104, 105, 106, 107, 108, 109, 110, 111], [112, 113, 114], [112, 115, 116, 117, 118, 119, 120, 121, 122, 123, 124, 125, 126, 127, 128], [129, 130, 131], [129, 132, 133], [134, 135, 136, 137, 138, 139, 140, 141, 142, 143, 144, 145, 146, 147, 148], [149, 150], [151, 152], [0, 1, 10, 134, 153, 154, 155, 156, 157, 158, 159, 160, 161, 162, 163, 164, 165, 166], [11, 167]] Try.f60 = some F } := ⟨F_slices_partitionOrdered, by kernel_rfl⟩
theorem c60 : Cert 60 T60.1 := cert_of T60.2 Try.func60
-- math/bits.Len32
noncomputable def T61 : { F : AFunc // CT.func [[], [3], [2, 4, 5, 6], [], [4, 7], [8, 9, 10], [11, 12], [0, 8, 13, 14, 15, 16, 17, 18]] Try.f61 = some F } := by
  refine ⟨?F, ?h⟩
  case h =>
    conv => lhs; cbv
theorem c61 : Cert 61 T61.1 := cert_of T61.2 Try.func61
-- math/bits.Len64
noncomputable def T62 : { F : AFunc // CT.func [[], [3], [2, 4, 5, 6], [], [4, 7], [8, 9, 10], [11, 12], [8, 13], [14, 15, 16], [17, 18], [0, 14, 19, 20, 21, 22, 23, 24]] Try.f62 = some F } := by
  refine ⟨?F, ?h⟩
  case h =>
    conv => lhs; cbv
theorem c62 : Cert 62 T62.1 := cert_of T62.2 Try.func62
-- suffrage/suffrageref03.Same
noncomputable def T63 : { F : AFunc // CT.func [[4], [6, 7, 8, 9], [0, 1, 10], [10], [11, 12, 13], [15, 16, 25], [14, 17, 18, 19, 20, 21, 22, 23, 24], [0, 1, 5, 25], [0, 1, 5, 14]] Try.f63 = some F } := by
  refine ⟨?F, ?h⟩
  case h =>
    conv => lhs; cbv
theorem c63 : Cert 63 T63.1 := cert_of T63.2 Try.func63
-- slices.Equal[[]uint32,uint32]
noncomputable def T64 : { F : AFunc // CT.func [[4], [6, 7, 8, 9], [0, 1, 10], [10, 11], [], [14, 15], [5, 16, 17, 18, 19, 20, 21, 22, 23], [0, 1, 12, 13, 24], [24, 25], [0, 1, 12, 13, 14]] Try.f64 = some F } := by
  refine ⟨?F, ?h⟩
  case h =>
    conv => lhs; cbv
theorem c64 : Cert 64 T64.1 := cert_of T64.2 Try.func64
-- slices.AppendSeq[[]int,int]
noncomputable def T65 : { F : AFunc // CT.func [[0, 4], [1], [6, 7], [2, 5, 8, 9, 10, 11], [2, 6, 12]] Try.f65 = some F } := by
  refine ⟨?F, ?h⟩
  case h =>
    conv => lhs; cbv
theorem c65 : Cert 65 T65.1 := cert_of T65.2 Try.func65
-- slices.siftDownOrdered[int]
noncomputable def T66 : { F : AFunc // CT.func [[1, 10], [11, 12, 13], [14, 15], [16, 17, 18, 19, 20, 21, 22, 23, 24, 25, 26, 27, 28, 29, 30, 31, 32, 33, 34, 35], [36, 37, 38], [36, 39, 40, 41, 42, 43, 44, 45, 46, 47, 48, 49, 50, 51], [8, 52, 53, 54, 55, 56, 57, 58, 59, 60, 61, 62, 63, 64, 65, 66, 67, 68, 69, 70, 71, 72, 73, 74], [9, 75]] Try.f66 = some F } := by
  refine ⟨?F, ?h⟩
  case h =>
    conv => lhs; cbv
theorem c66 : Cert 66 T66.1 := cert_of T66.2 Try.func66
end Go.Proofs.Ytaehkmmlacpleaa
