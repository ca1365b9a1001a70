/- The functions in the abstract language, worked out by Lean. -/
import Derived.Test.YtmkaekblmbjhpaaGreatAlX
set_option linter.unusedVariables false
set_option maxHeartbeats 1000000
set_option maxRecDepth 100000
namespace Go.Proofs.YtmkaekblmbjhpaaGreat
-- (suffrage/ratio.pair).does
noncomputable def T276 : { F : AFunc // CT.func [[0, 5], [2, 6, 7, 8, 9, 10, 11, 12, 13, 14], [1, 15, 16], [1, 15, 17, 18, 19, 20]] Tryz.f276 = some F } := by
  refine ⟨?F, ?h⟩
  case h =>
    conv => lhs; cbv
theorem c276 : Cert 276 T276.1 := cert_of T276.2 Tryz.func276
-- (suffrage/ratio.pair).product
noncomputable def T277 : { F : AFunc // CT.func [[0, 3], [6, 7, 8, 9, 10, 11, 12, 13, 14, 15], [16], [1, 4, 17, 18, 19], [17, 20, 21, 22, 23, 24, 25, 26, 27, 28, 29], [30], [1, 4, 5, 31, 32, 33], [1, 4, 5, 31, 34, 35, 36, 37, 38, 39, 40, 41, 42, 43]] Tryz.f277 = some F } := by
  refine ⟨?F, ?h⟩
  case h =>
    conv => lhs; cbv
theorem c277 : Cert 277 T277.1 := cert_of T277.2 Tryz.func277
-- (suffrage/ratio.pair).sum
def R_ratio_pair_sum_0 : AC := .ops false [⟨some 1, .box (.t 0), none, []⟩,
  ⟨some 2, .alloc [.bool false, .lst 0 [] (some 0), .lst 0 [] (some 0)], none, []⟩,
  ⟨some 3, .mov (.c (.int .i64 0)), none, []⟩] [0, 3]
def R_ratio_pair_sum_1 : AC := .ops false [⟨some 12, .load 6 false (.t 1), none, []⟩,
  ⟨some 13, .call (.fn 92) [.t 12], none, []⟩,
  ⟨some 11, .mov (.t 13), none, []⟩,
  ⟨some 14, .ext (.t 11) 0, none, []⟩,
  ⟨some 15, .ext (.t 11) 1, none, []⟩,
  ⟨some 16, .ext (.t 11) 2, none, []⟩,
  ⟨some 4, .mov (.t 14), none, []⟩,
  ⟨some 5, .mov (.t 15), none, []⟩,
  ⟨some 3, .mov (.t 16), none, []⟩] [11, 12, 13, 14, 15, 16]
def R_ratio_pair_sum_2 : AC := .ops false [⟨some 17, .mov (.t 3), none, []⟩,
  ⟨some 18, .bin .neq (.t 17) (.c (.int .i64 0)), none, []⟩] [17]
def R_ratio_pair_sum_3 : AC := .ops false [⟨some 19, .load 3 false (.t 2), none, []⟩,
  ⟨some 20, .mov (.t 3), none, []⟩,
  ⟨none, .store 3 (.t 2) (.t 19), none, []⟩,
  ⟨some 3, .mov (.t 20), none, []⟩] [1, 4, 5, 18, 19, 20]
def R_ratio_pair_sum_4 : AC := .ops false [⟨some 22, .fa (.t 1) 0, none, []⟩,
  ⟨some 23, .fa (.t 22) 2, none, []⟩,
  ⟨some 24, .load 1 true (.t 23), none, []⟩,
  ⟨some 25, .fa (.t 1) 3, none, []⟩,
  ⟨some 26, .fa (.t 25) 2, none, []⟩,
  ⟨some 27, .load 1 true (.t 26), none, []⟩,
  ⟨some 28, .call (.fn 169) [.t 24, .t 27], none, []⟩,
  ⟨some 21, .mov (.t 28), none, []⟩,
  ⟨some 29, .ext (.t 21) 0, none, []⟩,
  ⟨some 30, .ext (.t 21) 1, none, []⟩,
  ⟨some 6, .mov (.t 29), none, []⟩,
  ⟨some 3, .mov (.t 30), none, []⟩] [18, 21, 22, 23, 24, 25, 26, 27, 28, 29, 30]
def R_ratio_pair_sum_5 : AC := .ops false [⟨some 31, .mov (.t 3), none, []⟩,
  ⟨some 32, .bin .neq (.t 31) (.c (.int .i64 0)), none, []⟩] [31]
def R_ratio_pair_sum_6 : AC := .ops false [⟨some 33, .load 3 false (.t 2), none, []⟩,
  ⟨some 34, .mov (.t 3), none, []⟩,
  ⟨none, .store 3 (.t 2) (.t 33), none, []⟩,
  ⟨some 3, .mov (.t 34), none, []⟩] [1, 4, 5, 6, 32, 33, 34]
def R_ratio_pair_sum_7 : AC := .ops false [⟨some 36, .mov (.t 4), none, []⟩,
  ⟨some 37, .mov (.t 5), none, []⟩,
  ⟨some 38, .call (.fn 93) [.t 36, .t 37], none, []⟩,
  ⟨some 35, .mov (.t 38), none, []⟩,
  ⟨some 39, .ext (.t 35) 0, none, []⟩,
  ⟨some 40, .ext (.t 35) 1, none, []⟩,
  ⟨some 7, .mov (.t 39), none, []⟩,
  ⟨some 8, .mov (.t 40), none, []⟩] [3, 8, 32, 35, 36, 37, 38, 39, 40]
def R_ratio_pair_sum_8 : AC := .ops false [⟨some 41, .fa (.t 1) 0, none, []⟩,
  ⟨some 42, .fa (.t 41) 0, none, []⟩,
  ⟨some 43, .load 1 true (.t 42), none, []⟩,
  ⟨some 44, .bslice 1 [.int .u32 0] 0 [], none, []⟩,
  ⟨some 9, .mov (.t 43), none, []⟩,
  ⟨some 10, .mov (.t 44), none, []⟩] [10, 41, 42, 43, 44]
def R_ratio_pair_sum_9 : AC := .ops false [⟨some 46, .fa (.t 1) 0, none, []⟩,
  ⟨some 47, .fa (.t 46) 0, none, []⟩,
  ⟨some 48, .load 1 true (.t 47), none, []⟩,
  ⟨some 49, .fa (.t 1) 3, none, []⟩,
  ⟨some 50, .fa (.t 49) 0, none, []⟩,
  ⟨some 51, .load 1 true (.t 50), none, []⟩,
  ⟨some 52, .beq false (.t 48) (.t 51), none, []⟩,
  ⟨some 45, .mov (.t 52), none, []⟩] [46, 47, 48, 49, 50, 51, 52]
def R_ratio_pair_sum_10 : AC := .ops false [⟨some 54, .mov (.t 7), none, []⟩,
  ⟨some 55, .bin .lss (.t 54) (.c (.int .i64 0)), none, []⟩,
  ⟨some 53, .mov (.t 55), none, []⟩] [7, 45, 54, 55]
def R_ratio_pair_sum_11 : AC := .ops false [⟨some 57, .mov (.t 4), none, []⟩,
  ⟨some 58, .mov (.t 5), none, []⟩,
  ⟨some 59, .call (.fn 296) [.t 57, .t 58], none, []⟩,
  ⟨some 56, .mov (.t 59), none, []⟩,
  ⟨some 60, .ext (.t 56) 0, none, []⟩,
  ⟨some 61, .ext (.t 56) 1, none, []⟩,
  ⟨some 10, .mov (.t 60), none, []⟩,
  ⟨some 3, .mov (.t 61), none, []⟩] [1, 4, 5, 7, 45, 56, 57, 58, 59, 60, 61]
def R_ratio_pair_sum_12 : AC := .ops true [⟨some 62, .mov (.t 5), none, []⟩,
  ⟨some 63, .mov (.t 4), none, []⟩,
  ⟨some 64, .fa (.t 1) 3, none, []⟩,
  ⟨some 65, .fa (.t 64) 0, none, [2]⟩,
  ⟨some 66, .load 1 true (.t 65), none, [3]⟩,
  ⟨some 4, .mov (.t 62), none, [0, 0, 1]⟩,
  ⟨some 5, .mov (.t 63), none, [1, 5, 0, 1, 5]⟩,
  ⟨some 9, .mov (.t 66), none, [4, 6, 0, 1, 2, 3, 4, 5, 6]⟩] [1, 53, 62, 63, 64, 65, 66]
def R_ratio_pair_sum_13 : AC := .ops false [⟨some 68, .mov (.t 4), none, []⟩,
  ⟨some 69, .mov (.t 5), none, []⟩,
  ⟨some 70, .call (.fn 297) [.t 68, .t 69], none, []⟩,
  ⟨some 67, .mov (.t 70), none, []⟩,
  ⟨some 71, .ext (.t 67) 0, none, []⟩,
  ⟨some 72, .ext (.t 67) 1, none, []⟩,
  ⟨some 10, .mov (.t 71), none, []⟩,
  ⟨some 3, .mov (.t 72), none, []⟩] [1, 4, 5, 53, 67, 68, 69, 70, 71, 72]
def R_ratio_pair_sum_14 : AC := .ops false [⟨some 73, .mov (.t 3), none, []⟩,
  ⟨some 74, .bin .neq (.t 73) (.c (.int .i64 0)), none, []⟩] [73]
def R_ratio_pair_sum_15 : AC := .ops false [⟨some 75, .load 3 false (.t 2), none, []⟩,
  ⟨some 76, .mov (.t 3), none, []⟩,
  ⟨none, .store 3 (.t 2) (.t 75), none, []⟩,
  ⟨some 3, .mov (.t 76), none, []⟩] [6, 9, 10, 74, 75, 76]
def R_ratio_pair_sum_16 : AC := .ops false [⟨some 77, .mov (.t 9), none, []⟩,
  ⟨some 78, .mov (.t 10), none, []⟩,
  ⟨some 79, .mov (.t 6), none, []⟩,
  ⟨some 80, .call (.fn 21) [.t 77, .t 78, .t 79], none, []⟩,
  ⟨none, .store 3 (.t 2) (.t 80), none, []⟩,
  ⟨some 3, .mov (.c (.int .i64 0)), none, []⟩] [6, 9, 10, 74, 77, 78, 79, 80]
def F_ratio_pair_sum : AFunc := { ntmps := 81, nargs := 1, kills := [[0, 3], [11, 12, 13, 14, 15, 16], [17], [1, 4, 5, 18, 19, 20], [18, 21, 22, 23, 24, 25, 26, 27, 28, 29, 30], [31], [1, 4, 5, 6, 32, 33, 34], [3, 8, 32, 35, 36, 37, 38, 39, 40], [10, 41, 42, 43, 44], [46, 47, 48, 49, 50, 51, 52], [7, 45, 54, 55], [1, 4, 5, 7, 45, 56, 57, 58, 59, 60, 61], [1, 53, 62, 63, 64, 65, 66], [1, 4, 5, 53, 67, 68, 69, 70, 71, 72], [73], [6, 9, 10, 74, 75, 76], [6, 9, 10, 74, 77, 78, 79, 80]], results := [.cell 2 3 false, .t 3], body := (.seq R_ratio_pair_sum_0 (.seq R_ratio_pair_sum_1 (.seq (.seq R_ratio_pair_sum_2 (.cond (.t 18) (.seq R_ratio_pair_sum_3 .ret) .skip)) (.seq R_ratio_pair_sum_4 (.seq (.seq R_ratio_pair_sum_5 (.cond (.t 32) (.seq R_ratio_pair_sum_6 .ret) .skip)) (.seq R_ratio_pair_sum_7 (.seq R_ratio_pair_sum_8 (.seq (.block 0 (.seq (.block 3 (.seq (.block 2 (.seq (.block 1 (.seq (.seq (.seq R_ratio_pair_sum_9 (.cond (.t 45) (.exit 1) .skip)) (.seq R_ratio_pair_sum_10 (.cond (.t 53) (.exit 2) .skip))) (.exit 3))) (.seq R_ratio_pair_sum_11 (.exit 0)))) R_ratio_pair_sum_12)) (.seq R_ratio_pair_sum_13 (.exit 0)))) (.seq (.seq R_ratio_pair_sum_14 (.cond (.t 74) (.seq R_ratio_pair_sum_15 .ret) .skip)) (.seq R_ratio_pair_sum_16 .ret)))))))))) }
noncomputable def T278 : { F : AFunc // CT.func [[0, 3], [11, 12, 13, 14, 15, 16], [17], [1, 4, 5, 18, 19, 20], [18, 21, 22, 23, 24, 25, 26, 27, 28, 29, 30], [31], [1, 4, 5, 6, 32, 33, 34], [3, 8, 32, 35, 36, 37, 38, 39, 40], [10, 41, 42, 43, 44], [46, 47, 48, 49, 50, 51, 52], [7, 45, 54, 55], [1, 4, 5, 7, 45, 56, 57, 58, 59, 60, 61], [1, 53, 62, 63, 64, 65, 66], [1, 4, 5, 53, 67, 68, 69, 70, 71, 72], [73], [6, 9, 10, 74, 75, 76], [6, 9, 10, 74, 77, 78, 79, 80]] Tryz.f278 = some F } := ⟨F_ratio_pair_sum, by kernel_rfl⟩
theorem c278 : Cert 278 T278.1 := cert_of T278.2 Tryz.func278
-- (suffrage/ratio.pair).quotient
noncomputable def T279 : { F : AFunc // CT.func [[0, 3], [4, 5, 6, 7], [1, 8, 9], [1, 8, 10, 11, 12, 13, 14, 15, 16, 17, 18, 19, 20, 21, 22, 23, 24, 25]] Tryz.f279 = some F } := by
  refine ⟨?F, ?h⟩
  case h =>
    conv => lhs; cbv
theorem c279 : Cert 279 T279.1 := cert_of T279.2 Tryz.func279
-- slices.pdqsortOrdered[int]
def R_slices_pdqsortOrdered_0 : AC := .ops false [⟨some 8, .mov (.c (.bool true)), none, []⟩] []
def R_slices_pdqsortOrdered_1 : AC := .ops false [⟨some 9, .mov (.c (.bool true)), none, []⟩] []
def R_slices_pdqsortOrdered_2 : AC := .ops false [⟨some 19, .mov (.t 2), none, []⟩,
  ⟨some 20, .mov (.t 1), none, []⟩,
  ⟨some 21, .bin .sub (.t 19) (.t 20), none, []⟩,
  ⟨some 10, .mov (.t 21), none, []⟩] [19, 20, 21]
def R_slices_pdqsortOrdered_3 : AC := .ops false [⟨some 22, .mov (.t 10), none, []⟩,
  ⟨some 23, .bin .leq (.t 22) (.c (.int .i64 12)), none, []⟩] [22]
def R_slices_pdqsortOrdered_4 : AC := .ops false [⟨some 24, .mov (.t 0), none, []⟩,
  ⟨some 25, .mov (.t 1), none, []⟩,
  ⟨some 26, .mov (.t 2), none, []⟩,
  ⟨some 27, .call (.fn 298) [.t 24, .t 25, .t 26], none, []⟩] [0, 1, 2, 3, 8, 9, 10, 23, 24, 25, 26, 27]
def R_slices_pdqsortOrdered_5 : AC := .ops false [⟨some 28, .mov (.t 3), none, []⟩,
  ⟨some 29, .bin .eql (.t 28) (.c (.int .i64 0)), none, []⟩] [23, 28]
def R_slices_pdqsortOrdered_6 : AC := .ops false [⟨some 30, .mov (.t 0), none, []⟩,
  ⟨some 31, .mov (.t 1), none, []⟩,
  ⟨some 32, .mov (.t 2), none, []⟩,
  ⟨some 33, .call (.fn 299) [.t 30, .t 31, .t 32], none, []⟩] [0, 1, 2, 3, 8, 9, 10, 29, 30, 31, 32, 33]
def R_slices_pdqsortOrdered_7 : AC := .ops false [⟨some 34, .mov (.t 8), none, []⟩,
  ⟨some 35, .un .not (.t 34), none, []⟩] [29, 34]
def R_slices_pdqsortOrdered_8 : AC := .ops false [⟨some 36, .mov (.t 0), none, []⟩,
  ⟨some 37, .mov (.t 1), none, []⟩,
  ⟨some 38, .mov (.t 2), none, []⟩,
  ⟨some 39, .call (.fn 300) [.t 36, .t 37, .t 38], none, []⟩] [35, 36, 37, 38, 39]
def R_slices_pdqsortOrdered_9 : AC := .ops false [⟨some 40, .mov (.t 3), none, []⟩,
  ⟨some 41, .bin .sub (.t 40) (.c (.int .i64 1)), none, []⟩,
  ⟨some 3, .mov (.t 41), none, []⟩] [40, 41]
def R_slices_pdqsortOrdered_10 : AC := .ops false [⟨some 43, .mov (.t 0), none, []⟩,
  ⟨some 44, .mov (.t 1), none, []⟩,
  ⟨some 45, .mov (.t 2), none, []⟩,
  ⟨some 46, .call (.fn 301) [.t 43, .t 44, .t 45], none, []⟩,
  ⟨some 42, .mov (.t 46), none, []⟩,
  ⟨some 47, .ext (.t 42) 0, none, []⟩,
  ⟨some 48, .ext (.t 42) 1, none, []⟩,
  ⟨some 11, .mov (.t 47), none, []⟩,
  ⟨some 12, .mov (.t 48), none, []⟩] [35, 42, 43, 44, 45, 46, 47, 48]
def R_slices_pdqsortOrdered_11 : AC := .ops false [⟨some 49, .mov (.t 12), none, []⟩,
  ⟨some 50, .bin .eql (.t 49) (.c (.int .i64 2)), none, []⟩] [49]
def R_slices_pdqsortOrdered_12 : AC := .ops false [⟨some 51, .mov (.t 0), none, []⟩,
  ⟨some 52, .mov (.t 1), none, []⟩,
  ⟨some 53, .mov (.t 2), none, []⟩,
  ⟨some 54, .call (.fn 302) [.t 51, .t 52, .t 53], none, []⟩] [12, 50, 51, 52, 53, 54]
def R_slices_pdqsortOrdered_13 : AC := .ops false [⟨some 55, .mov (.t 2), none, []⟩,
  ⟨some 56, .bin .sub (.t 55) (.c (.int .i64 1)), none, []⟩,
  ⟨some 57, .mov (.t 11), none, []⟩,
  ⟨some 58, .mov (.t 1), none, []⟩,
  ⟨some 59, .bin .sub (.t 57) (.t 58), none, []⟩,
  ⟨some 60, .bin .sub (.t 56) (.t 59), none, []⟩,
  ⟨some 11, .mov (.t 60), none, []⟩] [55, 56, 57, 58, 59, 60]
def R_slices_pdqsortOrdered_14 : AC := .ops false [⟨some 12, .mov (.c (.int .i64 1)), none, []⟩] []
def R_slices_pdqsortOrdered_15 : AC := .ops false [⟨some 61, .mov (.t 8), none, []⟩,
  ⟨some 62, .mov (.t 61), none, []⟩,
  ⟨some 63, .mov (.t 9), some (62, true), []⟩,
  ⟨some 64, .pick (.t 62) (.t 63) (.c (.bool false)), none, []⟩,
  ⟨some 65, .mov (.t 64), none, []⟩,
  ⟨some 66, .mov (.t 12), some (65, true), []⟩,
  ⟨some 67, .bin .eql (.t 66) (.c (.int .i64 1)), some (65, true), []⟩,
  ⟨some 68, .pick (.t 65) (.t 67) (.c (.bool false)), none, []⟩] [12, 50, 61, 62, 63, 64, 65, 66, 67]
def R_slices_pdqsortOrdered_16 : AC := .ops false [⟨some 69, .mov (.t 0), none, []⟩,
  ⟨some 70, .mov (.t 1), none, []⟩,
  ⟨some 71, .mov (.t 2), none, []⟩,
  ⟨some 72, .call (.fn 303) [.t 69, .t 70, .t 71], none, []⟩] [68, 69, 70, 71]
def R_slices_pdqsortOrdered_17 : AC := .ops true [⟨some 73, .mov (.t 1), none, []⟩,
  ⟨some 74, .bin .gtr (.t 73) (.c (.int .i64 0)), none, [0]⟩,
  ⟨some 75, .mov (.t 74), none, [1]⟩,
  ⟨some 76, .mov (.t 0), some (75, true), [2]⟩,
  ⟨some 77, .mov (.t 1), some (75, true), [2]⟩,
  ⟨some 78, .bin .sub (.t 77) (.c (.int .i64 1)), some (75, true), [4, 2]⟩,
  ⟨some 79, .ia 1 (.t 76) (.t 78), some (75, true), [3, 5, 2]⟩,
  ⟨some 80, .load 1 true (.t 79), some (75, true), [6, 2]⟩,
  ⟨some 81, .mov (.t 0), some (75, true), [2]⟩,
  ⟨some 82, .mov (.t 11), some (75, true), [2]⟩,
  ⟨some 83, .ia 1 (.t 81) (.t 82), some (75, true), [8, 9, 2]⟩,
  ⟨some 84, .load 1 true (.t 83), some (75, true), [10, 2]⟩,
  ⟨some 85, .call (.fn 254) [.t 80, .t 84], some (75, true), [7, 11, 2, 2]⟩,
  ⟨some 86, .un .not (.t 85), some (75, true), [12, 2]⟩,
  ⟨some 87, .pick (.t 75) (.t 86) (.c (.bool false)), none, [2, 13]⟩] [68, 72, 73, 74, 75, 76, 77, 78, 79, 80, 81, 82, 83, 84, 85, 86]
def R_slices_pdqsortOrdered_18 : AC := .ops false [⟨some 88, .mov (.t 0), none, []⟩,
  ⟨some 89, .mov (.t 1), none, []⟩,
  ⟨some 90, .mov (.t 2), none, []⟩,
  ⟨some 91, .mov (.t 11), none, []⟩,
  ⟨some 92, .call (.fn 304) [.t 88, .t 89, .t 90, .t 91], none, []⟩,
  ⟨some 13, .mov (.t 92), none, []⟩] [1, 10, 11, 87, 88, 89, 90, 91, 92]
def R_slices_pdqsortOrdered_19 : AC := .ops false [⟨some 93, .mov (.t 13), none, []⟩,
  ⟨some 1, .mov (.t 93), none, []⟩] [13, 93]
def R_slices_pdqsortOrdered_20 : AC := .ops false [⟨some 95, .mov (.t 0), none, []⟩,
  ⟨some 96, .mov (.t 1), none, []⟩,
  ⟨some 97, .mov (.t 2), none, []⟩,
  ⟨some 98, .mov (.t 11), none, []⟩,
  ⟨some 99, .call (.fn 305) [.t 95, .t 96, .t 97, .t 98], none, []⟩,
  ⟨some 94, .mov (.t 99), none, []⟩,
  ⟨some 100, .ext (.t 94) 0, none, []⟩,
  ⟨some 101, .ext (.t 94) 1, none, []⟩,
  ⟨some 14, .mov (.t 100), none, []⟩,
  ⟨some 15, .mov (.t 101), none, []⟩] [8, 9, 11, 87, 94, 95, 96, 97, 98, 99, 100, 101]
def R_slices_pdqsortOrdered_21 : AC := .ops false [⟨some 102, .mov (.t 15), none, []⟩,
  ⟨some 9, .mov (.t 102), none, []⟩] [15, 102]
def R_slices_pdqsortOrdered_22 : AC := .ops false [⟨some 103, .mov (.t 14), none, []⟩,
  ⟨some 104, .mov (.t 1), none, []⟩,
  ⟨some 105, .bin .sub (.t 103) (.t 104), none, []⟩,
  ⟨some 106, .mov (.t 2), none, []⟩,
  ⟨some 107, .mov (.t 14), none, []⟩,
  ⟨some 108, .bin .sub (.t 106) (.t 107), none, []⟩,
  ⟨some 16, .mov (.t 105), none, []⟩,
  ⟨some 17, .mov (.t 108), none, []⟩] [103, 104, 105, 106, 107, 108]
def R_slices_pdqsortOrdered_23 : AC := .ops false [⟨some 109, .mov (.t 10), none, []⟩,
  ⟨some 110, .bin .quo (.t 109) (.c (.int .i64 8)), none, []⟩,
  ⟨some 18, .mov (.t 110), none, []⟩] [10, 109, 110]
def R_slices_pdqsortOrdered_24 : AC := .ops false [⟨some 111, .mov (.t 16), none, []⟩,
  ⟨some 112, .mov (.t 17), none, []⟩,
  ⟨some 113, .bin .lss (.t 111) (.t 112), none, []⟩] [111, 112]
def R_slices_pdqsortOrdered_25 : AC := .ops false [⟨some 114, .mov (.t 16), none, []⟩,
  ⟨some 115, .mov (.t 18), none, []⟩,
  ⟨some 116, .bin .geq (.t 114) (.t 115), none, []⟩,
  ⟨some 8, .mov (.t 116), none, []⟩] [16, 17, 18, 113, 114, 115, 116]
def R_slices_pdqsortOrdered_26 : AC := .ops false [⟨some 117, .mov (.t 0), none, []⟩,
  ⟨some 118, .mov (.t 1), none, []⟩,
  ⟨some 119, .mov (.t 14), none, []⟩,
  ⟨some 120, .mov (.t 3), none, []⟩,
  ⟨some 121, .call (.fn 280) [.t 117, .t 118, .t 119, .t 120], none, []⟩] [1, 117, 118, 119, 120, 121]
def R_slices_pdqsortOrdered_27 : AC := .ops false [⟨some 122, .mov (.t 14), none, []⟩,
  ⟨some 123, .bin .add (.t 122) (.c (.int .i64 1)), none, []⟩,
  ⟨some 1, .mov (.t 123), none, []⟩] [14, 122, 123]
def R_slices_pdqsortOrdered_28 : AC := .ops false [⟨some 124, .mov (.t 17), none, []⟩,
  ⟨some 125, .mov (.t 18), none, []⟩,
  ⟨some 126, .bin .geq (.t 124) (.t 125), none, []⟩,
  ⟨some 8, .mov (.t 126), none, []⟩] [16, 17, 18, 113, 124, 125, 126]
def R_slices_pdqsortOrdered_29 : AC := .ops false [⟨some 127, .mov (.t 0), none, []⟩,
  ⟨some 128, .mov (.t 14), none, []⟩,
  ⟨some 129, .bin .add (.t 128) (.c (.int .i64 1)), none, []⟩,
  ⟨some 130, .mov (.t 2), none, []⟩,
  ⟨some 131, .mov (.t 3), none, []⟩,
  ⟨some 132, .call (.fn 280) [.t 127, .t 129, .t 130, .t 131], none, []⟩] [2, 127, 128, 129, 130, 131, 132]
def R_slices_pdqsortOrdered_30 : AC := .ops false [⟨some 133, .mov (.t 14), none, []⟩,
  ⟨some 2, .mov (.t 133), none, []⟩] [14, 133]
def L_slices_pdqsortOrdered_1 : AC := (.block 1 (.seq R_slices_pdqsortOrdered_2 (.seq (.seq R_slices_pdqsortOrdered_3 (.cond (.t 23) (.seq R_slices_pdqsortOrdered_4 .ret) .skip)) (.seq (.seq R_slices_pdqsortOrdered_5 (.cond (.t 29) (.seq R_slices_pdqsortOrdered_6 .ret) .skip)) (.seq (.seq R_slices_pdqsortOrdered_7 (.cond (.t 35) (.seq R_slices_pdqsortOrdered_8 R_slices_pdqsortOrdered_9) .skip)) (.seq R_slices_pdqsortOrdered_10 (.seq (.seq R_slices_pdqsortOrdered_11 (.cond (.t 50) (.seq R_slices_pdqsortOrdered_12 (.seq R_slices_pdqsortOrdered_13 R_slices_pdqsortOrdered_14)) .skip)) (.seq (.seq R_slices_pdqsortOrdered_15 (.cond (.t 68) (.seq R_slices_pdqsortOrdered_16 (.cond (.t 72) .ret .skip)) .skip)) (.seq (.seq R_slices_pdqsortOrdered_17 (.cond (.t 87) (.seq R_slices_pdqsortOrdered_18 (.seq R_slices_pdqsortOrdered_19 (.exit 1))) .skip)) (.seq R_slices_pdqsortOrdered_20 (.seq R_slices_pdqsortOrdered_21 (.seq R_slices_pdqsortOrdered_22 (.seq R_slices_pdqsortOrdered_23 (.seq R_slices_pdqsortOrdered_24 (.cond (.t 113) (.seq R_slices_pdqsortOrdered_25 (.seq R_slices_pdqsortOrdered_26 R_slices_pdqsortOrdered_27)) (.seq R_slices_pdqsortOrdered_28 (.seq R_slices_pdqsortOrdered_29 R_slices_pdqsortOrdered_30)))))))))))))))))
def F_slices_pdqsortOrdered : AFunc := { ntmps := 134, nargs := 4, kills := [[], [], [19, 20, 21], [22], [0, 1, 2, 3, 8, 9, 10, 23, 24, 25, 26, 27], [23, 28], [0, 1, 2, 3, 8, 9, 10, 29, 30, 31, 32, 33], [29, 34], [35, 36, 37, 38, 39], [40, 41], [35, 42, 43, 44, 45, 46, 47, 48], [49], [12, 50, 51, 52, 53, 54], [55, 56, 57, 58, 59, 60], [], [12, 50, 61, 62, 63, 64, 65, 66, 67], [68, 69, 70, 71], [68, 72, 73, 74, 75, 76, 77, 78, 79, 80, 81, 82, 83, 84, 85, 86], [1, 10, 11, 87, 88, 89, 90, 91, 92], [13, 93], [8, 9, 11, 87, 94, 95, 96, 97, 98, 99, 100, 101], [15, 102], [103, 104, 105, 106, 107, 108], [10, 109, 110], [111, 112], [16, 17, 18, 113, 114, 115, 116], [1, 117, 118, 119, 120, 121], [14, 122, 123], [16, 17, 18, 113, 124, 125, 126], [2, 127, 128, 129, 130, 131, 132], [14, 133]], results := [], body := (.seq R_slices_pdqsortOrdered_0 (.seq R_slices_pdqsortOrdered_1 (.block 0 (.loop L_slices_pdqsortOrdered_1)))) }
noncomputable def T280 : { F : AFunc // CT.func [[], [], [19, 20, 21], [22], [0, 1, 2, 3, 8, 9, 10, 23, 24, 25, 26, 27], [23, 28], [0, 1, 2, 3, 8, 9, 10, 29, 30, 31, 32, 33], [29, 34], [35, 36, 37, 38, 39], [40, 41], [35, 42, 43, 44, 45, 46, 47, 48], [49], [12, 50, 51, 52, 53, 54], [55, 56, 57, 58, 59, 60], [], [12, 50, 61, 62, 63, 64, 65, 66, 67], [68, 69, 70, 71], [68, 72, 73, 74, 75, 76, 77, 78, 79, 80, 81, 82, 83, 84, 85, 86], [1, 10, 11, 87, 88, 89, 90, 91, 92], [13, 93], [8, 9, 11, 87, 94, 95, 96, 97, 98, 99, 100, 101], [15, 102], [103, 104, 105, 106, 107, 108], [10, 109, 110], [111, 112], [16, 17, 18, 113, 114, 115, 116], [1, 117, 118, 119, 120, 121], [14, 122, 123], [16, 17, 18, 113, 124, 125, 126], [2, 127, 128, 129, 130, 131, 132], [14, 133]] Tryz.f280 = some F } := ⟨F_slices_pdqsortOrdered, by kernel_rfl⟩
theorem c280 : Cert 280 T280.1 := cert_of T280.2 Tryz.func280
-- math/bits.Len
noncomputable def T281 : { F : AFunc // CT.func [[2], [0, 3, 4, 5], [0, 6, 7]] Tryz.f281 = some F } := by
  refine ⟨?F, ?h⟩
  case h =>
    conv => lhs; cbv
theorem c281 : Cert 281 T281.1 := cert_of T281.2 Tryz.func281
-- math/bits.Mul
noncomputable def T282 : { F : AFunc // CT.func [[4, 5], [0, 1, 10, 11, 12, 13, 14, 15, 16, 17], [6, 7, 18, 19, 20, 21], [0, 1, 22, 23, 24, 25, 26, 27], [8, 9, 28, 29]] Tryz.f282 = some F } := by
  refine ⟨?F, ?h⟩
  case h =>
    conv => lhs; cbv
theorem c282 : Cert 282 T282.1 := cert_of T282.2 Tryz.func282
-- math/bits.Len32
noncomputable def T283 : { F : AFunc // CT.func [[], [3], [2, 4, 5, 6], [], [4, 7], [8, 9, 10], [11, 12], [0, 8, 13, 14, 15, 16, 17, 18]] Tryz.f283 = some F } := by
  refine ⟨?F, ?h⟩
  case h =>
    conv => lhs; cbv
theorem c283 : Cert 283 T283.1 := cert_of T283.2 Tryz.func283
-- math/bits.Sub32
noncomputable def T284 : { F : AFunc // CT.func [[6, 7], [2, 8, 9, 10, 11, 12], [0, 1, 13, 14, 15, 16, 17, 18, 19, 20, 21, 22, 23, 24]] Tryz.f284 = some F } := by
  refine ⟨?F, ?h⟩
  case h =>
    conv => lhs; cbv
theorem c284 : Cert 284 T284.1 := cert_of T284.2 Tryz.func284
-- math/bits.Add32
noncomputable def T285 : { F : AFunc // CT.func [[6, 7], [0, 1, 2, 9, 10, 11, 12, 13, 14, 15, 16], [17, 18], [8, 19, 20, 21]] Tryz.f285 = some F } := by
  refine ⟨?F, ?h⟩
  case h =>
    conv => lhs; cbv
theorem c285 : Cert 285 T285.1 := cert_of T285.2 Tryz.func285
-- (*suffrage/sheet.reader).row$1
noncomputable def T286 : { F : AFunc // CT.func [[5, 6, 7], [], [10, 11], [4, 12, 13, 14, 15, 16, 17, 18, 19, 20, 21, 22, 23, 24, 25, 26, 27, 28, 29, 30], [31, 32]] Tryz.f286 = some F } := by
  refine ⟨?F, ?h⟩
  case h =>
    conv => lhs; cbv
theorem c286 : Cert 286 T286.1 := cert_of T286.2 Tryz.func286
-- slices.AppendSeq[[]int,int]
noncomputable def T287 : { F : AFunc // CT.func [[0, 4], [1], [6, 7], [2, 5, 8, 9, 10, 11], [2, 6, 12]] Tryz.f287 = some F } := by
  refine ⟨?F, ?h⟩
  case h =>
    conv => lhs; cbv
theorem c287 : Cert 287 T287.1 := cert_of T287.2 Tryz.func287
-- slices.Reverse[[]suffrage/api.Row,suffrage/api.Row]
noncomputable def T288 : { F : AFunc // CT.func [[4, 5, 6], [7, 8], [10, 11, 12, 13], [9, 14, 15, 16, 17, 18, 19, 20, 21, 22, 23, 24, 25, 26, 27]] Tryz.f288 = some F } := by
  refine ⟨?F, ?h⟩
  case h =>
    conv => lhs; cbv
theorem c288 : Cert 288 T288.1 := cert_of T288.2 Tryz.func288
-- (*suffrage/choose.Count).Seats$1
noncomputable def T289 : { F : AFunc // CT.func [[3], [0, 1, 4, 5, 6, 7]] Tryz.f289 = some F } := by
  refine ⟨?F, ?h⟩
  case h =>
    conv => lhs; cbv
theorem c289 : Cert 289 T289.1 := cert_of T289.2 Tryz.func289
-- (*suffrage/choose.Count).Seats$2
noncomputable def T290 : { F : AFunc // CT.func [[3], [0, 1, 4, 5, 6]] Tryz.f290 = some F } := by
  refine ⟨?F, ?h⟩
  case h =>
    conv => lhs; cbv
theorem c290 : Cert 290 T290.1 := cert_of T290.2 Tryz.func290
-- slices.Values[[]int,int]$1
noncomputable def T291 : { F : AFunc // CT.func [[1], [], [8, 9, 10], [4, 11, 12, 13], [14, 15]] Tryz.f291 = some F } := by
  refine ⟨?F, ?h⟩
  case h =>
    conv => lhs; cbv
theorem c291 : Cert 291 T291.1 := cert_of T291.2 Tryz.func291
end Go.Proofs.YtmkaekblmbjhpaaGreat
