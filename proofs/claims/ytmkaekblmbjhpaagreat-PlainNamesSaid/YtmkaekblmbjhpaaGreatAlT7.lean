/- The functions in the abstract language, worked out by Lean. -/
import Derived.Test.YtmkaekblmbjhpaaGreatAlX
set_option linter.unusedVariables false
set_option maxHeartbeats 1000000
set_option maxRecDepth 100000
namespace Go.Proofs.YtmkaekblmbjhpaaGreat
-- suffrage/ballot.fine
def R_ballot_fine_0 : AC := .ops false [⟨some 2, .box (.t 0), none, []⟩,
  ⟨some 4, .mov (.c (.bool false)), none, []⟩] [0, 4]
def R_ballot_fine_1 : AC := .ops false [⟨some 10, .fa (.t 2) 1, none, []⟩,
  ⟨some 11, .load 1 true (.t 10), none, []⟩,
  ⟨some 12, .len (.t 11), none, []⟩,
  ⟨some 13, .mov (.c (.int .i64 0)), none, []⟩] [10]
def R_ballot_fine_2 : AC := .ops false [⟨some 14, .bin .lss (.t 13) (.t 12), none, []⟩] []
def R_ballot_fine_3 : AC := .ops false [⟨some 15, .ia 1 (.t 11) (.t 13), none, []⟩,
  ⟨some 16, .load 1 true (.t 15), none, []⟩,
  ⟨some 6, .mov (.t 16), none, []⟩] [14, 15, 16]
def R_ballot_fine_4 : AC := .ops false [⟨some 17, .fa (.t 2) 0, none, []⟩,
  ⟨some 18, .load 1 true (.t 17), none, []⟩,
  ⟨some 19, .bin .neq (.t 18) (.c (.int .u8 3)), none, []⟩,
  ⟨some 20, .mov (.t 19), none, []⟩,
  ⟨some 21, .mov (.t 6), some (20, true), []⟩,
  ⟨some 22, .mov (.t 1), some (20, true), []⟩,
  ⟨some 23, .call (.fn 114) [.t 21, .c (.int .i64 0), .t 22], some (20, true), []⟩,
  ⟨some 24, .un .not (.t 23), some (20, true), []⟩,
  ⟨some 25, .pick (.t 20) (.t 24) (.c (.bool false)), none, []⟩,
  ⟨some 26, .mov (.t 25), none, []⟩,
  ⟨some 27, .fa (.t 2) 0, some (26, false), []⟩,
  ⟨some 28, .load 1 true (.t 27), some (26, false), []⟩,
  ⟨some 29, .bin .eql (.t 28) (.c (.int .u8 3)), some (26, false), []⟩,
  ⟨some 30, .mov (.t 29), some (26, false), []⟩,
  ⟨some 31, .mov (.t 6), some (30, true), []⟩,
  ⟨some 32, .call (.fn 114) [.t 31, .c (.int .i64 0), .c (.int .i64 11)], some (30, true), []⟩,
  ⟨some 33, .un .not (.t 32), some (30, true), []⟩,
  ⟨some 34, .pick (.t 30) (.t 33) (.c (.bool false)), some (26, false), []⟩,
  ⟨some 35, .pick (.t 26) (.c (.bool true)) (.t 34), none, []⟩] [6, 17, 18, 19, 20, 21, 22, 23, 24, 25, 26, 27, 28, 29, 30, 31, 32, 33, 34]
def R_ballot_fine_5 : AC := .ops false [⟨some 4, .mov (.c (.bool false)), none, []⟩] [1, 2, 11, 12, 13, 35]
def R_ballot_fine_6 : AC := .ops false [⟨some 36, .bin .add (.t 13) (.c (.int .i64 1)), none, []⟩,
  ⟨some 13, .mov (.t 36), none, []⟩] [35, 36]
def L_ballot_fine_1 : AC := (.seq R_ballot_fine_2 (.seq (.cond (.t 14) .skip (.exit 0)) (.seq (.block 1 (.seq R_ballot_fine_3 (.seq R_ballot_fine_4 (.cond (.t 35) (.seq R_ballot_fine_5 .ret) .skip)))) R_ballot_fine_6)))
def R_ballot_fine_7 : AC := .ops false [⟨some 37, .fa (.t 2) 0, none, []⟩,
  ⟨some 38, .load 1 true (.t 37), none, []⟩] [11, 12, 13, 14, 37]
def R_ballot_fine_8 : AC := .ops false [⟨some 40, .bin .eql (.t 38) (.c (.int .u8 3)), none, []⟩,
  ⟨some 39, .mov (.t 40), none, []⟩] [40]
def R_ballot_fine_9 : AC := .ops false [⟨some 42, .bin .eql (.t 38) (.c (.int .u8 2)), none, []⟩,
  ⟨some 41, .mov (.t 42), none, []⟩] [1, 39, 42]
def R_ballot_fine_10 : AC := .ops false [⟨some 44, .bin .eql (.t 38) (.c (.int .u8 1)), none, []⟩,
  ⟨some 43, .mov (.t 44), none, []⟩] [38, 41, 44]
def R_ballot_fine_11 : AC := .ops false [⟨some 45, .fa (.t 2) 1, none, []⟩,
  ⟨some 46, .load 1 true (.t 45), none, []⟩,
  ⟨some 47, .len (.t 46), none, []⟩,
  ⟨some 48, .mov (.t 1), none, []⟩,
  ⟨some 49, .bin .eql (.t 47) (.t 48), none, []⟩,
  ⟨some 4, .mov (.t 49), none, []⟩] [1, 2, 38, 39, 45, 46, 47, 48, 49]
def R_ballot_fine_12 : AC := .ops false [⟨some 50, .fa (.t 2) 1, none, []⟩,
  ⟨some 51, .load 1 true (.t 50), none, []⟩,
  ⟨some 52, .call (.fn 182) [.t 51], none, []⟩,
  ⟨some 53, .un .not (.t 52), none, []⟩] [38, 41, 50, 51, 52]
def R_ballot_fine_13 : AC := .ops false [⟨some 4, .mov (.c (.bool false)), none, []⟩] [2, 53]
def R_ballot_fine_14 : AC := .ops false [⟨some 7, .alloc [.bool false, .bool false, .bool false, .bool false, .bool false, .bool false, .bool false, .bool false, .bool false, .bool false], none, []⟩] [43, 53]
def R_ballot_fine_15 : AC := .ops false [⟨some 54, .fa (.t 2) 1, none, []⟩,
  ⟨some 55, .load 1 true (.t 54), none, []⟩,
  ⟨some 56, .len (.t 55), none, []⟩,
  ⟨some 57, .mov (.c (.int .i64 0)), none, []⟩] [2, 54]
def R_ballot_fine_16 : AC := .ops false [⟨some 58, .bin .lss (.t 57) (.t 56), none, []⟩] []
def R_ballot_fine_17 : AC := .ops false [⟨some 59, .ia 1 (.t 55) (.t 57), none, []⟩,
  ⟨some 60, .load 1 true (.t 59), none, []⟩,
  ⟨some 9, .mov (.t 60), none, []⟩] [58, 59, 60]
def R_ballot_fine_18 : AC := .ops false [⟨some 61, .mov (.t 9), none, []⟩,
  ⟨some 62, .iaa 1 10 (.t 7) (.t 61), none, []⟩,
  ⟨some 63, .load 1 true (.t 62), none, []⟩] [61, 62]
def R_ballot_fine_19 : AC := .ops false [⟨some 4, .mov (.c (.bool false)), none, []⟩] [7, 9, 55, 56, 57, 63]
def R_ballot_fine_20 : AC := .ops false [⟨some 64, .mov (.t 9), none, []⟩,
  ⟨some 65, .iaa 1 10 (.t 7) (.t 64), none, []⟩,
  ⟨none, .store 1 (.t 65) (.c (.bool true)), none, []⟩] [9, 63, 64, 65]
def R_ballot_fine_21 : AC := .ops false [⟨some 66, .bin .add (.t 57) (.c (.int .i64 1)), none, []⟩,
  ⟨some 57, .mov (.t 66), none, []⟩] [66]
def L_ballot_fine_2 : AC := (.seq R_ballot_fine_16 (.seq (.cond (.t 58) .skip (.exit 6)) (.seq (.block 7 (.seq R_ballot_fine_17 (.seq (.seq R_ballot_fine_18 (.cond (.t 63) (.seq R_ballot_fine_19 .ret) .skip)) R_ballot_fine_20))) R_ballot_fine_21)))
def R_ballot_fine_22 : AC := .ops false [⟨some 4, .mov (.c (.bool true)), none, []⟩] [7, 55, 56, 57, 58]
def R_ballot_fine_23 : AC := .ops false [⟨some 4, .mov (.c (.bool false)), none, []⟩] [2, 43]
def F_ballot_fine : AFunc := { ntmps := 67, nargs := 2, kills := [[0, 4], [10], [], [14, 15, 16], [6, 17, 18, 19, 20, 21, 22, 23, 24, 25, 26, 27, 28, 29, 30, 31, 32, 33, 34], [1, 2, 11, 12, 13, 35], [35, 36], [11, 12, 13, 14, 37], [40], [1, 39, 42], [38, 41, 44], [1, 2, 38, 39, 45, 46, 47, 48, 49], [38, 41, 50, 51, 52], [2, 53], [43, 53], [2, 54], [], [58, 59, 60], [61, 62], [7, 9, 55, 56, 57, 63], [9, 63, 64, 65], [66], [7, 55, 56, 57, 58], [2, 43]], results := [.t 4], body := (.seq R_ballot_fine_0 (.seq (.seq R_ballot_fine_1 (.block 0 (.loop L_ballot_fine_1))) (.seq (.seq R_ballot_fine_7 (.block 2 (.seq (.block 5 (.seq (.block 4 (.seq (.block 3 (.seq (.seq (.seq R_ballot_fine_8 (.cond (.t 39) (.exit 3) .skip)) (.seq (.seq R_ballot_fine_9 (.cond (.t 41) (.exit 4) .skip)) (.seq R_ballot_fine_10 (.cond (.t 43) (.exit 5) .skip)))) (.exit 2))) (.seq (.seq R_ballot_fine_11 .ret) (.exit 2)))) (.seq R_ballot_fine_12 (.cond (.t 53) (.seq R_ballot_fine_13 .ret) .skip)))) (.seq (.seq R_ballot_fine_14 (.seq (.seq R_ballot_fine_15 (.block 6 (.loop L_ballot_fine_2))) (.seq R_ballot_fine_22 .ret))) (.exit 2))))) (.seq R_ballot_fine_23 .ret)))) }
noncomputable def T115 : { F : AFunc // CT.func [[0, 4], [10], [], [14, 15, 16], [6, 17, 18, 19, 20, 21, 22, 23, 24, 25, 26, 27, 28, 29, 30, 31, 32, 33, 34], [1, 2, 11, 12, 13, 35], [35, 36], [11, 12, 13, 14, 37], [40], [1, 39, 42], [38, 41, 44], [1, 2, 38, 39, 45, 46, 47, 48, 49], [38, 41, 50, 51, 52], [2, 53], [43, 53], [2, 54], [], [58, 59, 60], [61, 62], [7, 9, 55, 56, 57, 63], [9, 63, 64, 65], [66], [7, 55, 56, 57, 58], [2, 43]] Tryz.f115 = some F } := ⟨F_ballot_fine, by kernel_rfl⟩
theorem c115 : Cert 115 T115.1 := cert_of T115.2 Tryz.func115
-- suffrage/single.marked
noncomputable def T116 : { F : AFunc // CT.func [[1, 4], [8], [0], [], [12, 13, 14], [7, 15, 16], [17], [5, 9, 10, 11, 12, 18]] Tryz.f116 = some F } := by
  refine ⟨?F, ?h⟩
  case h =>
    conv => lhs; cbv
theorem c116 : Cert 116 T116.1 := cert_of T116.2 Tryz.func116
-- suffrage/single.alone
noncomputable def T117 : { F : AFunc // CT.func [[2], [0, 3, 4, 5]] Tryz.f117 = some F } := by
  refine ⟨?F, ?h⟩
  case h =>
    conv => lhs; cbv
theorem c117 : Cert 117 T117.1 := cert_of T117.2 Tryz.func117
-- (suffrage/single.rule).count
def R_single_rule_count_0 : AC := .ops false [⟨some 4, .box (.t 0), none, []⟩,
  ⟨some 5, .box (.t 1), none, []⟩,
  ⟨some 8, .alloc [.lst 0 [] (some 0), .lst 0 [] (some 0), .lst 0 [] (some 0)], none, []⟩,
  ⟨some 9, .mov (.c (.int .i64 0)), none, []⟩] [0, 1, 9]
def R_single_rule_count_1 : AC := .ops false [⟨some 17, .load 3 false (.t 5), none, []⟩,
  ⟨some 18, .fa (.t 4) 0, none, []⟩,
  ⟨some 19, .load 1 true (.t 18), none, []⟩,
  ⟨some 20, .mov (.t 2), none, []⟩,
  ⟨some 21, .fa (.t 5) 0, none, []⟩,
  ⟨some 22, .load 1 true (.t 21), none, []⟩,
  ⟨some 23, .mov (.t 3), none, []⟩,
  ⟨some 24, .call (.fn 128) [.t 17, .t 19, .t 20, .t 22, .t 23], none, []⟩,
  ⟨some 10, .mov (.t 24), none, []⟩] [17, 18, 19, 20, 21, 22, 23, 24]
def R_single_rule_count_2 : AC := .ops false [⟨some 25, .mov (.t 10), none, []⟩,
  ⟨some 26, .bin .neq (.t 25) (.c (.int .i64 0)), none, []⟩] [25]
def R_single_rule_count_3 : AC := .ops false [⟨some 27, .build [.lst 0 [] (some 0), .lst 0 [] (some 0), .lst 0 [] (some 0)] [], none, []⟩,
  ⟨some 28, .mov (.t 10), none, []⟩,
  ⟨none, .store 3 (.t 8) (.t 27), none, []⟩,
  ⟨some 9, .mov (.t 28), none, []⟩] [2, 3, 4, 5, 10, 26, 27, 28]
def R_single_rule_count_4 : AC := .ops false [⟨some 29, .fa (.t 5) 0, none, []⟩,
  ⟨some 30, .load 1 true (.t 29), none, []⟩,
  ⟨some 31, .mkslice 1 8 [.int .i64 0] (.t 30) (.t 30), none, []⟩,
  ⟨some 11, .mov (.t 31), none, []⟩,
  ⟨some 12, .mov (.c (.int .i64 0)), none, []⟩] [10, 26, 29, 30, 31]
def R_single_rule_count_5 : AC := .ops false [⟨some 32, .fa (.t 5) 2, none, []⟩,
  ⟨some 33, .load 1 true (.t 32), none, []⟩,
  ⟨some 34, .len (.t 33), none, []⟩,
  ⟨some 35, .mov (.c (.int .i64 0)), none, []⟩] [32]
def R_single_rule_count_6 : AC := .ops false [⟨some 36, .bin .lss (.t 35) (.t 34), none, []⟩] []
def R_single_rule_count_7 : AC := .ops false [⟨some 37, .ia 2 (.t 33) (.t 35), none, []⟩,
  ⟨some 38, .load 2 false (.t 37), none, []⟩,
  ⟨some 14, .alloc [.lst 0 [] (some 0), .int .i64 0], none, []⟩,
  ⟨none, .store 2 (.t 14) (.t 38), none, []⟩] [36, 37, 38]
def R_single_rule_count_8 : AC := .ops false [⟨some 39, .fa (.t 4) 2, none, []⟩,
  ⟨some 40, .load 1 true (.t 39), none, []⟩,
  ⟨some 41, .fa (.t 14) 0, none, []⟩,
  ⟨some 42, .load 1 true (.t 41), none, []⟩,
  ⟨some 43, .call (.dyn (.t 40)) [.t 42], none, []⟩] [39, 40, 41, 42]
def R_single_rule_count_9 : AC := .ops false [⟨some 44, .mov (.t 12), none, []⟩,
  ⟨some 45, .fa (.t 14) 1, none, []⟩,
  ⟨some 46, .load 1 true (.t 45), none, []⟩,
  ⟨some 47, .bin .add (.t 44) (.t 46), none, []⟩,
  ⟨some 12, .mov (.t 47), none, []⟩] [14, 43, 44, 45, 46, 47]
def R_single_rule_count_10 : AC := .ops false [⟨some 48, .fa (.t 4) 1, none, []⟩,
  ⟨some 49, .load 1 true (.t 48), none, []⟩,
  ⟨some 50, .fa (.t 14) 0, none, []⟩,
  ⟨some 51, .load 1 true (.t 50), none, []⟩,
  ⟨some 52, .fa (.t 5) 0, none, []⟩,
  ⟨some 53, .load 1 true (.t 52), none, []⟩,
  ⟨some 54, .call (.dyn (.t 49)) [.t 51, .t 53], none, []⟩,
  ⟨some 55, .mrange (.t 54), none, []⟩] [43, 48, 49, 50, 51, 52, 53, 54]
def R_single_rule_count_11 : AC := .ops false [⟨some 56, .mnext (.t 55), none, []⟩,
  ⟨some 57, .ext (.t 56) 0, none, []⟩] [56]
def R_single_rule_count_12 : AC := .ops false [⟨some 58, .mentry (.t 55), none, []⟩,
  ⟨some 59, .ext (.t 58) 0, none, []⟩,
  ⟨some 60, .ext (.t 58) 1, none, []⟩,
  ⟨some 15, .mov (.t 59), none, []⟩,
  ⟨some 16, .mov (.t 60), none, []⟩] [57, 58, 59, 60]
def R_single_rule_count_13 : AC := .ops true [⟨some 61, .mov (.t 11), none, []⟩,
  ⟨some 62, .mov (.t 15), none, []⟩,
  ⟨some 63, .ia 1 (.t 61) (.t 62), none, [0, 1]⟩,
  ⟨some 64, .load 1 true (.t 63), none, [2]⟩,
  ⟨some 65, .mov (.t 16), none, []⟩,
  ⟨some 66, .fa (.t 14) 1, none, []⟩,
  ⟨some 67, .load 1 true (.t 66), none, [5]⟩,
  ⟨some 68, .bin .mul (.t 65) (.t 67), none, [4, 6]⟩,
  ⟨some 69, .bin .add (.t 64) (.t 68), none, [3, 7]⟩,
  ⟨some 70, .ia 1 (.t 61) (.t 62), none, [0, 1, 0, 1, 2, 3, 4, 5, 6, 7, 8]⟩,
  ⟨none, .store 1 (.t 70) (.t 69), none, [9, 8, 0, 1, 2, 3, 4, 5, 6, 7, 8]⟩] [15, 16, 61, 62, 63, 64, 65, 66, 67, 68, 69, 70]
def L_single_rule_count_1 : AC := (.seq R_single_rule_count_11 (.seq (.cond (.t 57) .skip (.exit 2)) (.block 3 (.seq R_single_rule_count_12 R_single_rule_count_13))))
def R_single_rule_count_14 : AC := .ops false [⟨some 71, .bin .add (.t 35) (.c (.int .i64 1)), none, []⟩,
  ⟨some 35, .mov (.t 71), none, []⟩] [14, 55, 57, 71]
def L_single_rule_count_2 : AC := (.seq R_single_rule_count_6 (.seq (.cond (.t 36) .skip (.exit 0)) (.seq (.block 1 (.seq R_single_rule_count_7 (.seq (.seq R_single_rule_count_8 (.cond (.t 43) (.seq R_single_rule_count_9 (.exit 1)) .skip)) (.seq R_single_rule_count_10 (.block 2 (.loop L_single_rule_count_1)))))) R_single_rule_count_14)))
def R_single_rule_count_15 : AC := .ops false [⟨some 72, .mov (.t 3), none, []⟩,
  ⟨some 73, .call (.fn 131) [.t 72], none, []⟩,
  ⟨some 74, .mov (.t 11), none, []⟩,
  ⟨some 75, .mov (.t 12), none, []⟩,
  ⟨some 76, .mov (.t 2), none, []⟩,
  ⟨some 77, .call (.fn 183) [.t 73, .t 74, .t 75, .t 76], none, []⟩,
  ⟨none, .store 3 (.t 8) (.t 77), none, []⟩,
  ⟨some 9, .mov (.c (.int .i64 0)), none, []⟩] [2, 3, 4, 5, 11, 12, 33, 34, 35, 36, 72, 73, 74, 75, 76, 77]
def F_single_rule_count : AFunc := { ntmps := 78, nargs := 4, kills := [[0, 1, 9], [17, 18, 19, 20, 21, 22, 23, 24], [25], [2, 3, 4, 5, 10, 26, 27, 28], [10, 26, 29, 30, 31], [32], [], [36, 37, 38], [39, 40, 41, 42], [14, 43, 44, 45, 46, 47], [43, 48, 49, 50, 51, 52, 53, 54], [56], [57, 58, 59, 60], [15, 16, 61, 62, 63, 64, 65, 66, 67, 68, 69, 70], [14, 55, 57, 71], [2, 3, 4, 5, 11, 12, 33, 34, 35, 36, 72, 73, 74, 75, 76, 77]], results := [.cell 8 3 false, .t 9], body := (.seq R_single_rule_count_0 (.seq (.seq R_single_rule_count_1 (.seq R_single_rule_count_2 (.cond (.t 26) (.seq R_single_rule_count_3 .ret) .skip))) (.seq R_single_rule_count_4 (.seq (.seq R_single_rule_count_5 (.block 0 (.loop L_single_rule_count_2))) (.seq R_single_rule_count_15 .ret))))) }
noncomputable def T118 : { F : AFunc // CT.func [[0, 1, 9], [17, 18, 19, 20, 21, 22, 23, 24], [25], [2, 3, 4, 5, 10, 26, 27, 28], [10, 26, 29, 30, 31], [32], [], [36, 37, 38], [39, 40, 41, 42], [14, 43, 44, 45, 46, 47], [43, 48, 49, 50, 51, 52, 53, 54], [56], [57, 58, 59, 60], [15, 16, 61, 62, 63, 64, 65, 66, 67, 68, 69, 70], [14, 55, 57, 71], [2, 3, 4, 5, 11, 12, 33, 34, 35, 36, 72, 73, 74, 75, 76, 77]] Tryz.f118 = some F } := ⟨F_single_rule_count, by kernel_rfl⟩
theorem c118 : Cert 118 T118.1 := cert_of T118.2 Tryz.func118
-- suffrage/single.never
noncomputable def T119 : { F : AFunc // CT.func [[0, 2], []] Tryz.f119 = some F } := by
  refine ⟨?F, ?h⟩
  case h =>
    conv => lhs; cbv
theorem c119 : Cert 119 T119.1 := cert_of T119.2 Tryz.func119
-- suffrage/single.scored
noncomputable def T120 : { F : AFunc // CT.func [[1, 4], [8], [0], [], [12, 13, 14, 15], [6, 7, 16, 17, 18], [19], [5, 9, 10, 11, 12, 20]] Tryz.f120 = some F } := by
  refine ⟨?F, ?h⟩
  case h =>
    conv => lhs; cbv
theorem c120 : Cert 120 T120.1 := cert_of T120.2 Tryz.func120
-- suffrage/single.ranked
noncomputable def T121 : { F : AFunc // CT.func [[4], [8], [0], [], [12, 13, 14, 15], [6, 7, 16, 17, 18, 19, 20, 21], [22], [1, 5, 9, 10, 11, 12, 23]] Tryz.f121 = some F } := by
  refine ⟨?F, ?h⟩
  case h =>
    conv => lhs; cbv
theorem c121 : Cert 121 T121.1 := cert_of T121.2 Tryz.func121
-- suffrage/condorcet.Copeland$1
noncomputable def T122 : { F : AFunc // CT.func [[0], [2, 8], [], [11, 12], [13, 14, 15, 16], [18, 19], [6, 7, 17, 20, 21], [6, 7, 17, 23, 24, 25, 26, 27, 28, 29], [22, 30, 31], [22, 32], [1, 3, 9, 10, 11, 33]] Tryz.f122 = some F } := by
  refine ⟨?F, ?h⟩
  case h =>
    conv => lhs; cbv
theorem c122 : Cert 122 T122.1 := cert_of T122.2 Tryz.func122
-- suffrage/pairs.Margin
noncomputable def T123 : { F : AFunc // CT.func [[0, 6], [7, 8, 9, 10, 11, 12, 13, 14, 15, 16, 17, 18], [1, 2, 3, 19], [1, 2, 3, 19, 20, 21, 22, 23, 24, 25, 26, 27, 28, 29, 30]] Tryz.f123 = some F } := by
  refine ⟨?F, ?h⟩
  case h =>
    conv => lhs; cbv
theorem c123 : Cert 123 T123.1 := cert_of T123.2 Tryz.func123
-- suffrage/condorcet.count
def R_condorcet_count_0 : AC := .ops false [⟨some 5, .box (.t 0), none, []⟩,
  ⟨some 8, .box (.t 3), none, []⟩,
  ⟨some 10, .alloc [.lst 0 [] (some 0), .lst 0 [] (some 0), .lst 0 [] (some 0)], none, []⟩,
  ⟨some 11, .mov (.c (.int .i64 0)), none, []⟩] [0, 3, 11]
def R_condorcet_count_1 : AC := .ops false [⟨some 19, .load 3 false (.t 5), none, []⟩,
  ⟨some 20, .mov (.t 1), none, []⟩,
  ⟨some 21, .mov (.t 2), none, []⟩,
  ⟨some 22, .call (.fn 128) [.t 19, .c (.int .u8 1), .t 20, .c (.int .i64 1), .t 21], none, []⟩,
  ⟨some 12, .mov (.t 22), none, []⟩] [1, 19, 20, 21, 22]
def R_condorcet_count_2 : AC := .ops false [⟨some 23, .mov (.t 12), none, []⟩,
  ⟨some 24, .bin .neq (.t 23) (.c (.int .i64 0)), none, []⟩] [23]
def R_condorcet_count_3 : AC := .ops false [⟨some 25, .build [.lst 0 [] (some 0), .lst 0 [] (some 0), .lst 0 [] (some 0)] [], none, []⟩,
  ⟨some 26, .mov (.t 12), none, []⟩,
  ⟨none, .store 3 (.t 10) (.t 25), none, []⟩,
  ⟨some 11, .mov (.t 26), none, []⟩] [2, 4, 5, 8, 12, 24, 25, 26]
def R_condorcet_count_4 : AC := .ops false [⟨some 28, .load 3 false (.t 5), none, []⟩,
  ⟨some 29, .call (.fn 129) [.t 28], none, []⟩,
  ⟨some 27, .mov (.t 29), none, []⟩,
  ⟨some 30, .ext (.t 27) 0, none, []⟩,
  ⟨some 31, .ext (.t 27) 1, none, []⟩,
  ⟨some 13, .alloc [.int .i64 0, .int .i64 0, .int .i64 0, .int .i64 0, .int .i64 0, .int .i64 0, .int .i64 0, .int .i64 0, .int .i64 0, .int .i64 0, .int .i64 0, .int .i64 0, .int .i64 0, .int .i64 0, .int .i64 0, .int .i64 0, .int .i64 0, .int .i64 0, .int .i64 0, .int .i64 0, .int .i64 0, .int .i64 0, .int .i64 0, .int .i64 0, .int .i64 0, .int .i64 0, .int .i64 0, .int .i64 0, .int .i64 0, .int .i64 0, .int .i64 0, .int .i64 0, .int .i64 0, .int .i64 0, .int .i64 0, .int .i64 0, .int .i64 0, .int .i64 0, .int .i64 0, .int .i64 0, .int .i64 0, .int .i64 0, .int .i64 0, .int .i64 0, .int .i64 0, .int .i64 0, .int .i64 0, .int .i64 0, .int .i64 0, .int .i64 0, .int .i64 0, .int .i64 0, .int .i64 0, .int .i64 0, .int .i64 0, .int .i64 0, .int .i64 0, .int .i64 0, .int .i64 0, .int .i64 0, .int .i64 0, .int .i64 0, .int .i64 0, .int .i64 0, .int .i64 0, .int .i64 0, .int .i64 0, .int .i64 0, .int .i64 0, .int .i64 0, .int .i64 0, .int .i64 0, .int .i64 0, .int .i64 0, .int .i64 0, .int .i64 0, .int .i64 0, .int .i64 0, .int .i64 0, .int .i64 0, .int .i64 0, .int .i64 0, .int .i64 0, .int .i64 0, .int .i64 0, .int .i64 0, .int .i64 0, .int .i64 0, .int .i64 0, .int .i64 0, .int .i64 0, .int .i64 0, .int .i64 0, .int .i64 0, .int .i64 0, .int .i64 0, .int .i64 0, .int .i64 0, .int .i64 0, .int .i64 0], none, []⟩,
  ⟨none, .store 100 (.t 13) (.t 30), none, []⟩,
  ⟨some 14, .mov (.t 31), none, []⟩] [12, 14, 24, 27, 28, 29, 30, 31]
def R_condorcet_count_5 : AC := .ops false [⟨some 32, .mov (.t 2), none, []⟩,
  ⟨some 33, .call (.fn 131) [.t 32], none, []⟩,
  ⟨some 15, .mov (.t 33), none, []⟩] [2, 32, 33]
def R_condorcet_count_6 : AC := .ops false [⟨some 34, .mov (.t 15), none, []⟩,
  ⟨some 35, .fa (.t 5) 0, none, []⟩,
  ⟨some 36, .load 1 true (.t 35), none, []⟩,
  ⟨some 37, .call (.fn 134) [.t 36], none, []⟩,
  ⟨some 38, .mkfn 186 [] [.t 8, .t 13], none, []⟩,
  ⟨some 39, .call (.fn 133) [.t 37, .t 38], none, []⟩,
  ⟨some 40, .call (.fn 132) [.t 34, .t 39], none, []⟩,
  ⟨some 16, .mov (.t 40), none, []⟩] [34, 35, 36, 37, 38, 39, 40]
def R_condorcet_count_7 : AC := .ops false [⟨some 41, .call (.fn 12) [.c (.int .i64 0)], none, []⟩,
  ⟨some 42, .mov (.t 16), none, []⟩,
  ⟨some 43, .bslice 1 [.int .i64 0] 1 [(0, .t 42)], none, []⟩,
  ⟨some 44, .build [.lst 0 [] (some 0), .bool false, .lst 0 [] (some 0), .lst 0 [] (some 0), .lst 0 [] (some 0), .lst 0 [] (some 0)] [(1, 3, .t 41), (4, 1, .t 43)], none, []⟩,
  ⟨some 17, .alloc [.lst 0 [] (some 0), .bool false, .lst 0 [] (some 0), .lst 0 [] (some 0), .lst 0 [] (some 0), .lst 0 [] (some 0)], none, []⟩,
  ⟨none, .store 6 (.t 17) (.t 44), none, []⟩] [41, 42, 43, 44]
def R_condorcet_count_8 : AC := .ops false [⟨some 45, .fa (.t 5) 0, none, []⟩,
  ⟨some 46, .load 1 true (.t 45), none, []⟩,
  ⟨some 47, .mov (.c (.int .i64 0)), none, []⟩] [5, 45]
def R_condorcet_count_9 : AC := .ops false [⟨some 48, .bin .lss (.t 47) (.t 46), none, []⟩] []
def R_condorcet_count_10 : AC := .ops false [⟨some 49, .mov (.t 47), none, []⟩,
  ⟨some 18, .mov (.t 49), none, []⟩] [48, 49]
def R_condorcet_count_11 : AC := .ops true [⟨some 50, .fa (.t 17) 0, none, []⟩,
  ⟨some 51, .load 1 true (.t 50), none, [0]⟩,
  ⟨some 52, .mov (.t 4), none, []⟩,
  ⟨some 53, .load 1 true (.t 8), none, []⟩,
  ⟨some 54, .load 100 false (.t 13), none, []⟩,
  ⟨some 55, .mov (.t 18), none, []⟩,
  ⟨some 56, .call (.dyn (.t 53)) [.t 54, .t 55], none, [3, 4, 5]⟩,
  ⟨some 57, .call (.dyn (.t 52)) [.t 56], none, [2, 6, 6]⟩,
  ⟨some 58, .bslice 3 [.bool false, .lst 0 [] (some 0), .lst 0 [] (some 0)] 1 [(0, .t 57)], none, [7]⟩,
  ⟨some 59, .append 3 56 (.t 51) (.t 58), none, [1, 8, 7]⟩,
  ⟨some 60, .fa (.t 17) 0, none, [0, 1, 2, 3, 4, 5, 6, 7, 8, 9]⟩,
  ⟨none, .store 1 (.t 60) (.t 59), none, [10, 9, 9, 0, 1, 2, 3, 4, 5, 6, 7, 8, 9]⟩] [18, 50, 51, 52, 53, 54, 55, 56, 57, 58, 59, 60]
def R_condorcet_count_12 : AC := .ops false [⟨some 61, .bin .add (.t 47) (.c (.int .i64 1)), none, []⟩,
  ⟨some 47, .mov (.t 61), none, []⟩] [61]
def L_condorcet_count_1 : AC := (.seq R_condorcet_count_9 (.seq (.cond (.t 48) .skip (.exit 0)) (.seq (.block 1 (.seq R_condorcet_count_10 R_condorcet_count_11)) R_condorcet_count_12)))
def R_condorcet_count_13 : AC := .ops true [⟨some 62, .mov (.t 15), none, []⟩,
  ⟨some 63, .mov (.t 15), none, []⟩,
  ⟨some 64, .mov (.t 16), none, []⟩,
  ⟨some 65, .bslice 1 [.int .i64 0] 1 [(0, .t 64)], none, [2]⟩,
  ⟨some 66, .load 6 false (.t 17), none, []⟩,
  ⟨some 67, .bslice 6 [.lst 0 [] (some 0), .bool false, .lst 0 [] (some 0), .lst 0 [] (some 0), .lst 0 [] (some 0), .lst 0 [] (some 0)] 1 [(0, .t 66)], none, [4]⟩,
  ⟨some 68, .nilchk (.t 62), none, [0, 0, 2, 3]⟩,
  ⟨some 69, .fa (.t 68) 0, none, [6, 0, 2, 3]⟩,
  ⟨some 70, .fa (.t 69) 0, none, [7, 0, 2, 3]⟩,
  ⟨none, .store 1 (.t 70) (.t 65), none, [8, 3, 0, 2, 3]⟩,
  ⟨some 71, .nilchk (.t 63), none, [1, 0, 1, 2, 3, 4, 5, 6, 7, 8, 9]⟩,
  ⟨some 72, .fa (.t 71) 0, none, [10, 0, 1, 2, 3, 4, 5, 6, 7, 8, 9]⟩,
  ⟨some 73, .fa (.t 72) 1, none, [11, 0, 1, 2, 3, 4, 5, 6, 7, 8, 9]⟩,
  ⟨none, .store 1 (.t 73) (.t 67), none, [12, 5, 9, 0, 1, 2, 3, 4, 5, 6, 7, 8, 9]⟩] [4, 8, 13, 16, 17, 46, 47, 48, 62, 63, 64, 65, 66, 67, 68, 69, 70, 71, 72, 73]
def R_condorcet_count_14 : AC := .ops false [⟨some 74, .mov (.t 15), none, []⟩,
  ⟨some 75, .nilchk (.t 74), none, []⟩,
  ⟨some 76, .fa (.t 75) 0, none, []⟩,
  ⟨some 77, .load 3 false (.t 76), none, []⟩,
  ⟨none, .store 3 (.t 10) (.t 77), none, []⟩,
  ⟨some 11, .mov (.c (.int .i64 0)), none, []⟩] [15, 74, 75, 76, 77]
def F_condorcet_count : AFunc := { ntmps := 78, nargs := 5, kills := [[0, 3, 11], [1, 19, 20, 21, 22], [23], [2, 4, 5, 8, 12, 24, 25, 26], [12, 14, 24, 27, 28, 29, 30, 31], [2, 32, 33], [34, 35, 36, 37, 38, 39, 40], [41, 42, 43, 44], [5, 45], [], [48, 49], [18, 50, 51, 52, 53, 54, 55, 56, 57, 58, 59, 60], [61], [4, 8, 13, 16, 17, 46, 47, 48, 62, 63, 64, 65, 66, 67, 68, 69, 70, 71, 72, 73], [15, 74, 75, 76, 77]], results := [.cell 10 3 false, .t 11], body := (.seq R_condorcet_count_0 (.seq (.seq R_condorcet_count_1 (.seq R_condorcet_count_2 (.cond (.t 24) (.seq R_condorcet_count_3 .ret) .skip))) (.seq R_condorcet_count_4 (.seq R_condorcet_count_5 (.seq R_condorcet_count_6 (.seq R_condorcet_count_7 (.seq (.seq R_condorcet_count_8 (.block 0 (.loop L_condorcet_count_1))) (.seq R_condorcet_count_13 (.seq R_condorcet_count_14 .ret))))))))) }
noncomputable def T124 : { F : AFunc // CT.func [[0, 3, 11], [1, 19, 20, 21, 22], [23], [2, 4, 5, 8, 12, 24, 25, 26], [12, 14, 24, 27, 28, 29, 30, 31], [2, 32, 33], [34, 35, 36, 37, 38, 39, 40], [41, 42, 43, 44], [5, 45], [], [48, 49], [18, 50, 51, 52, 53, 54, 55, 56, 57, 58, 59, 60], [61], [4, 8, 13, 16, 17, 46, 47, 48, 62, 63, 64, 65, 66, 67, 68, 69, 70, 71, 72, 73], [15, 74, 75, 76, 77]] Tryz.f124 = some F } := ⟨F_condorcet_count, by kernel_rfl⟩
theorem c124 : Cert 124 T124.1 := cert_of T124.2 Tryz.func124
-- suffrage/condorcet.Copeland$2
noncomputable def T125 : { F : AFunc // CT.func [[], [0, 4, 5, 6, 7, 8, 9], [3, 10]] Tryz.f125 = some F } := by
  refine ⟨?F, ?h⟩
  case h =>
    conv => lhs; cbv
theorem c125 : Cert 125 T125.1 := cert_of T125.2 Tryz.func125
-- suffrage/condorcet.Minimax$1
noncomputable def T126 : { F : AFunc // CT.func [[0], [2, 7], [], [10, 11], [6, 12, 13, 14, 15, 16, 17], [18], [1, 3, 8, 9, 10, 19]] Tryz.f126 = some F } := by
  refine ⟨?F, ?h⟩
  case h =>
    conv => lhs; cbv
theorem c126 : Cert 126 T126.1 := cert_of T126.2 Tryz.func126
-- suffrage/condorcet.Minimax$2
noncomputable def T127 : { F : AFunc // CT.func [[], [0, 3, 4, 5]] Tryz.f127 = some F } := by
  refine ⟨?F, ?h⟩
  case h =>
    conv => lhs; cbv
theorem c127 : Cert 127 T127.1 := cert_of T127.2 Tryz.func127
-- suffrage/choose.Check
noncomputable def T128 : { F : AFunc // CT.func [[0, 10], [1, 12, 13, 14, 15, 16, 17, 18, 19, 20], [2, 3, 4, 5, 11], [2, 3, 4, 5, 11, 22, 23, 24, 25, 26, 27, 28, 29, 30, 31, 32, 33, 34, 35, 36], [21], [21]] Tryz.f128 = some F } := by
  refine ⟨?F, ?h⟩
  case h =>
    conv => lhs; cbv
theorem c128 : Cert 128 T128.1 := cert_of T128.2 Tryz.func128
-- suffrage/pairs.Of
def R_pairs_Of_0 : AC := .ops false [⟨some 1, .box (.t 0), none, []⟩,
  ⟨some 2, .alloc [.int .i64 0, .int .i64 0, .int .i64 0, .int .i64 0, .int .i64 0, .int .i64 0, .int .i64 0, .int .i64 0, .int .i64 0, .int .i64 0, .int .i64 0, .int .i64 0, .int .i64 0, .int .i64 0, .int .i64 0, .int .i64 0, .int .i64 0, .int .i64 0, .int .i64 0, .int .i64 0, .int .i64 0, .int .i64 0, .int .i64 0, .int .i64 0, .int .i64 0, .int .i64 0, .int .i64 0, .int .i64 0, .int .i64 0, .int .i64 0, .int .i64 0, .int .i64 0, .int .i64 0, .int .i64 0, .int .i64 0, .int .i64 0, .int .i64 0, .int .i64 0, .int .i64 0, .int .i64 0, .int .i64 0, .int .i64 0, .int .i64 0, .int .i64 0, .int .i64 0, .int .i64 0, .int .i64 0, .int .i64 0, .int .i64 0, .int .i64 0, .int .i64 0, .int .i64 0, .int .i64 0, .int .i64 0, .int .i64 0, .int .i64 0, .int .i64 0, .int .i64 0, .int .i64 0, .int .i64 0, .int .i64 0, .int .i64 0, .int .i64 0, .int .i64 0, .int .i64 0, .int .i64 0, .int .i64 0, .int .i64 0, .int .i64 0, .int .i64 0, .int .i64 0, .int .i64 0, .int .i64 0, .int .i64 0, .int .i64 0, .int .i64 0, .int .i64 0, .int .i64 0, .int .i64 0, .int .i64 0, .int .i64 0, .int .i64 0, .int .i64 0, .int .i64 0, .int .i64 0, .int .i64 0, .int .i64 0, .int .i64 0, .int .i64 0, .int .i64 0, .int .i64 0, .int .i64 0, .int .i64 0, .int .i64 0, .int .i64 0, .int .i64 0, .int .i64 0, .int .i64 0, .int .i64 0, .int .i64 0], none, []⟩,
  ⟨some 3, .mov (.c (.int .i64 0)), none, []⟩] [0, 3]
def R_pairs_Of_1 : AC := .ops false [⟨some 9, .load 3 false (.t 1), none, []⟩,
  ⟨some 10, .call (.fn 39) [.t 9], none, []⟩,
  ⟨some 3, .mov (.t 10), none, []⟩] [9, 10]
def R_pairs_Of_2 : AC := .ops false [⟨some 11, .mov (.t 3), none, []⟩,
  ⟨some 12, .bin .neq (.t 11) (.c (.int .i64 0)), none, []⟩] [11]
def R_pairs_Of_3 : AC := .ops false [⟨some 13, .load 100 false (.t 2), none, []⟩,
  ⟨some 14, .mov (.t 3), none, []⟩,
  ⟨none, .store 100 (.t 2) (.t 13), none, []⟩,
  ⟨some 3, .mov (.t 14), none, []⟩] [1, 12, 13, 14]
def R_pairs_Of_4 : AC := .ops false [⟨some 15, .fa (.t 1) 2, none, []⟩,
  ⟨some 16, .load 1 true (.t 15), none, []⟩,
  ⟨some 17, .len (.t 16), none, []⟩,
  ⟨some 18, .mov (.c (.int .i64 0)), none, []⟩] [3, 12, 15]
def R_pairs_Of_5 : AC := .ops false [⟨some 19, .bin .lss (.t 18) (.t 17), none, []⟩] []
def R_pairs_Of_6 : AC := .ops false [⟨some 20, .ia 2 (.t 16) (.t 18), none, []⟩,
  ⟨some 21, .load 2 false (.t 20), none, []⟩,
  ⟨some 5, .alloc [.lst 0 [] (some 0), .int .i64 0], none, []⟩,
  ⟨none, .store 2 (.t 5) (.t 21), none, []⟩] [19, 20, 21]
def R_pairs_Of_7 : AC := .ops false [⟨some 22, .fa (.t 1) 1, none, []⟩,
  ⟨some 23, .load 1 true (.t 22), none, []⟩,
  ⟨some 24, .fa (.t 5) 0, none, []⟩,
  ⟨some 25, .load 1 true (.t 24), none, []⟩,
  ⟨some 26, .build [.int .u8 0, .lst 0 [] (some 0)] [(0, 1, .t 23), (1, 1, .t 25)], none, []⟩,
  ⟨some 6, .alloc [.int .u8 0, .lst 0 [] (some 0)], none, []⟩,
  ⟨none, .store 2 (.t 6) (.t 26), none, []⟩] [22, 23, 24, 25, 26]
def R_pairs_Of_8 : AC := .ops false [⟨some 27, .fa (.t 1) 0, none, []⟩,
  ⟨some 28, .load 1 true (.t 27), none, []⟩,
  ⟨some 29, .mov (.c (.int .i64 0)), none, []⟩] [27]
def R_pairs_Of_9 : AC := .ops false [⟨some 30, .bin .lss (.t 29) (.t 28), none, []⟩] []
def R_pairs_Of_10 : AC := .ops false [⟨some 31, .mov (.t 29), none, []⟩,
  ⟨some 7, .mov (.t 31), none, []⟩] [30, 31]
def R_pairs_Of_11 : AC := .ops false [⟨some 32, .fa (.t 1) 0, none, []⟩,
  ⟨some 33, .load 1 true (.t 32), none, []⟩,
  ⟨some 34, .mov (.c (.int .i64 0)), none, []⟩] [32]
def R_pairs_Of_12 : AC := .ops false [⟨some 35, .bin .lss (.t 34) (.t 33), none, []⟩] []
def R_pairs_Of_13 : AC := .ops false [⟨some 36, .mov (.t 34), none, []⟩,
  ⟨some 8, .mov (.t 36), none, []⟩] [35, 36]
def R_pairs_Of_14 : AC := .ops false [⟨some 37, .load 2 false (.t 6), none, []⟩,
  ⟨some 38, .mov (.t 7), none, []⟩,
  ⟨some 39, .mov (.t 8), none, []⟩,
  ⟨some 40, .call (.fn 188) [.t 37, .t 38, .t 39], none, []⟩] [37, 38, 39]
def R_pairs_Of_15 : AC := .ops true [⟨some 41, .mov (.t 7), none, []⟩,
  ⟨some 42, .mov (.t 8), none, []⟩,
  ⟨some 43, .iaa 10 10 (.t 2) (.t 41), none, [0]⟩,
  ⟨some 44, .iaa 1 10 (.t 43) (.t 42), none, [2, 1]⟩,
  ⟨some 45, .load 1 true (.t 44), none, [3]⟩,
  ⟨some 46, .fa (.t 5) 1, none, []⟩,
  ⟨some 47, .load 1 true (.t 46), none, [5]⟩,
  ⟨some 48, .bin .add (.t 45) (.t 47), none, [4, 6]⟩,
  ⟨some 49, .iaa 10 10 (.t 2) (.t 41), none, [0]⟩,
  ⟨some 50, .iaa 1 10 (.t 49) (.t 42), none, [8, 1, 0, 1, 2, 3, 4, 5, 6, 7]⟩,
  ⟨none, .store 1 (.t 50) (.t 48), none, [9, 7, 0, 1, 2, 3, 4, 5, 6, 7]⟩] [8, 40, 41, 42, 43, 44, 45, 46, 47, 48, 49, 50]
def R_pairs_Of_16 : AC := .ops false [⟨some 51, .bin .add (.t 34) (.c (.int .i64 1)), none, []⟩,
  ⟨some 34, .mov (.t 51), none, []⟩] [8, 40, 51]
def L_pairs_Of_1 : AC := (.seq R_pairs_Of_12 (.seq (.cond (.t 35) .skip (.exit 4)) (.seq (.block 5 (.seq R_pairs_Of_13 (.seq R_pairs_Of_14 (.cond (.t 40) R_pairs_Of_15 .skip)))) R_pairs_Of_16)))
def R_pairs_Of_17 : AC := .ops false [⟨some 52, .bin .add (.t 29) (.c (.int .i64 1)), none, []⟩,
  ⟨some 29, .mov (.t 52), none, []⟩] [7, 33, 34, 35, 52]
def L_pairs_Of_2 : AC := (.seq R_pairs_Of_9 (.seq (.cond (.t 30) .skip (.exit 2)) (.seq (.block 3 (.seq R_pairs_Of_10 (.seq R_pairs_Of_11 (.block 4 (.loop L_pairs_Of_1))))) R_pairs_Of_17)))
def R_pairs_Of_18 : AC := .ops false [⟨some 53, .bin .add (.t 18) (.c (.int .i64 1)), none, []⟩,
  ⟨some 18, .mov (.t 53), none, []⟩] [5, 6, 28, 29, 30, 53]
def L_pairs_Of_3 : AC := (.seq R_pairs_Of_5 (.seq (.cond (.t 19) .skip (.exit 0)) (.seq (.block 1 (.seq R_pairs_Of_6 (.seq R_pairs_Of_7 (.seq R_pairs_Of_8 (.block 2 (.loop L_pairs_Of_2)))))) R_pairs_Of_18)))
def R_pairs_Of_19 : AC := .ops false [⟨some 54, .load 100 false (.t 2), none, []⟩,
  ⟨none, .store 100 (.t 2) (.t 54), none, []⟩,
  ⟨some 3, .mov (.c (.int .i64 0)), none, []⟩] [1, 16, 17, 18, 19, 54]
def F_pairs_Of : AFunc := { ntmps := 55, nargs := 1, kills := [[0, 3], [9, 10], [11], [1, 12, 13, 14], [3, 12, 15], [], [19, 20, 21], [22, 23, 24, 25, 26], [27], [], [30, 31], [32], [], [35, 36], [37, 38, 39], [8, 40, 41, 42, 43, 44, 45, 46, 47, 48, 49, 50], [8, 40, 51], [7, 33, 34, 35, 52], [5, 6, 28, 29, 30, 53], [1, 16, 17, 18, 19, 54]], results := [.cell 2 100 false, .t 3], body := (.seq R_pairs_Of_0 (.seq (.seq R_pairs_Of_1 (.seq R_pairs_Of_2 (.cond (.t 12) (.seq R_pairs_Of_3 .ret) .skip))) (.seq (.seq R_pairs_Of_4 (.block 0 (.loop L_pairs_Of_3))) (.seq R_pairs_Of_19 .ret)))) }
noncomputable def T129 : { F : AFunc // CT.func [[0, 3], [9, 10], [11], [1, 12, 13, 14], [3, 12, 15], [], [19, 20, 21], [22, 23, 24, 25, 26], [27], [], [30, 31], [32], [], [35, 36], [37, 38, 39], [8, 40, 41, 42, 43, 44, 45, 46, 47, 48, 49, 50], [8, 40, 51], [7, 33, 34, 35, 52], [5, 6, 28, 29, 30, 53], [1, 16, 17, 18, 19, 54]] Tryz.f129 = some F } := ⟨F_pairs_Of, by kernel_rfl⟩
theorem c129 : Cert 129 T129.1 := cert_of T129.2 Tryz.func129
-- suffrage/paths.Strengths
def R_paths_Strengths_0 : AC := .ops false [⟨some 2, .box (.t 0), none, []⟩,
  ⟨some 4, .alloc [.int .i64 0, .int .i64 0, .int .i64 0, .int .i64 0, .int .i64 0, .int .i64 0, .int .i64 0, .int .i64 0, .int .i64 0, .int .i64 0, .int .i64 0, .int .i64 0, .int .i64 0, .int .i64 0, .int .i64 0, .int .i64 0, .int .i64 0, .int .i64 0, .int .i64 0, .int .i64 0, .int .i64 0, .int .i64 0, .int .i64 0, .int .i64 0, .int .i64 0, .int .i64 0, .int .i64 0, .int .i64 0, .int .i64 0, .int .i64 0, .int .i64 0, .int .i64 0, .int .i64 0, .int .i64 0, .int .i64 0, .int .i64 0, .int .i64 0, .int .i64 0, .int .i64 0, .int .i64 0, .int .i64 0, .int .i64 0, .int .i64 0, .int .i64 0, .int .i64 0, .int .i64 0, .int .i64 0, .int .i64 0, .int .i64 0, .int .i64 0, .int .i64 0, .int .i64 0, .int .i64 0, .int .i64 0, .int .i64 0, .int .i64 0, .int .i64 0, .int .i64 0, .int .i64 0, .int .i64 0, .int .i64 0, .int .i64 0, .int .i64 0, .int .i64 0, .int .i64 0, .int .i64 0, .int .i64 0, .int .i64 0, .int .i64 0, .int .i64 0, .int .i64 0, .int .i64 0, .int .i64 0, .int .i64 0, .int .i64 0, .int .i64 0, .int .i64 0, .int .i64 0, .int .i64 0, .int .i64 0, .int .i64 0, .int .i64 0, .int .i64 0, .int .i64 0, .int .i64 0, .int .i64 0, .int .i64 0, .int .i64 0, .int .i64 0, .int .i64 0, .int .i64 0, .int .i64 0, .int .i64 0, .int .i64 0, .int .i64 0, .int .i64 0, .int .i64 0, .int .i64 0, .int .i64 0, .int .i64 0], none, []⟩,
  ⟨some 5, .mov (.c (.int .i64 0)), none, []⟩] [0, 5]
def R_paths_Strengths_1 : AC := .ops false [⟨some 9, .mov (.t 1), none, []⟩,
  ⟨some 10, .bin .lss (.t 9) (.c (.int .i64 1)), none, []⟩,
  ⟨some 11, .mov (.t 10), none, []⟩,
  ⟨some 12, .mov (.t 1), some (11, false), []⟩,
  ⟨some 13, .bin .gtr (.t 12) (.c (.int .i64 10)), some (11, false), []⟩,
  ⟨some 14, .pick (.t 11) (.c (.bool true)) (.t 13), none, []⟩,
  ⟨some 8, .mov (.t 14), none, []⟩] [9, 10, 11, 12, 13, 14]
def R_paths_Strengths_2 : AC := .ops false [⟨some 15, .build [.int .i64 0, .int .i64 0, .int .i64 0, .int .i64 0, .int .i64 0, .int .i64 0, .int .i64 0, .int .i64 0, .int .i64 0, .int .i64 0, .int .i64 0, .int .i64 0, .int .i64 0, .int .i64 0, .int .i64 0, .int .i64 0, .int .i64 0, .int .i64 0, .int .i64 0, .int .i64 0, .int .i64 0, .int .i64 0, .int .i64 0, .int .i64 0, .int .i64 0, .int .i64 0, .int .i64 0, .int .i64 0, .int .i64 0, .int .i64 0, .int .i64 0, .int .i64 0, .int .i64 0, .int .i64 0, .int .i64 0, .int .i64 0, .int .i64 0, .int .i64 0, .int .i64 0, .int .i64 0, .int .i64 0, .int .i64 0, .int .i64 0, .int .i64 0, .int .i64 0, .int .i64 0, .int .i64 0, .int .i64 0, .int .i64 0, .int .i64 0, .int .i64 0, .int .i64 0, .int .i64 0, .int .i64 0, .int .i64 0, .int .i64 0, .int .i64 0, .int .i64 0, .int .i64 0, .int .i64 0, .int .i64 0, .int .i64 0, .int .i64 0, .int .i64 0, .int .i64 0, .int .i64 0, .int .i64 0, .int .i64 0, .int .i64 0, .int .i64 0, .int .i64 0, .int .i64 0, .int .i64 0, .int .i64 0, .int .i64 0, .int .i64 0, .int .i64 0, .int .i64 0, .int .i64 0, .int .i64 0, .int .i64 0, .int .i64 0, .int .i64 0, .int .i64 0, .int .i64 0, .int .i64 0, .int .i64 0, .int .i64 0, .int .i64 0, .int .i64 0, .int .i64 0, .int .i64 0, .int .i64 0, .int .i64 0, .int .i64 0, .int .i64 0, .int .i64 0, .int .i64 0, .int .i64 0, .int .i64 0] [], none, []⟩,
  ⟨none, .store 100 (.t 4) (.t 15), none, []⟩,
  ⟨some 5, .mov (.c (.int .i64 2)), none, []⟩] [1, 2, 8, 15]
def R_paths_Strengths_3 : AC := .ops false [⟨some 17, .load 100 false (.t 2), none, []⟩,
  ⟨some 18, .mov (.t 1), none, []⟩,
  ⟨some 19, .call (.fn 185) [.t 17, .t 18], none, []⟩,
  ⟨some 20, .un .not (.t 19), none, []⟩,
  ⟨some 16, .mov (.t 20), none, []⟩] [1, 8, 17, 18, 19, 20]
def R_paths_Strengths_4 : AC := .ops false [⟨some 21, .build [.int .i64 0, .int .i64 0, .int .i64 0, .int .i64 0, .int .i64 0, .int .i64 0, .int .i64 0, .int .i64 0, .int .i64 0, .int .i64 0, .int .i64 0, .int .i64 0, .int .i64 0, .int .i64 0, .int .i64 0, .int .i64 0, .int .i64 0, .int .i64 0, .int .i64 0, .int .i64 0, .int .i64 0, .int .i64 0, .int .i64 0, .int .i64 0, .int .i64 0, .int .i64 0, .int .i64 0, .int .i64 0, .int .i64 0, .int .i64 0, .int .i64 0, .int .i64 0, .int .i64 0, .int .i64 0, .int .i64 0, .int .i64 0, .int .i64 0, .int .i64 0, .int .i64 0, .int .i64 0, .int .i64 0, .int .i64 0, .int .i64 0, .int .i64 0, .int .i64 0, .int .i64 0, .int .i64 0, .int .i64 0, .int .i64 0, .int .i64 0, .int .i64 0, .int .i64 0, .int .i64 0, .int .i64 0, .int .i64 0, .int .i64 0, .int .i64 0, .int .i64 0, .int .i64 0, .int .i64 0, .int .i64 0, .int .i64 0, .int .i64 0, .int .i64 0, .int .i64 0, .int .i64 0, .int .i64 0, .int .i64 0, .int .i64 0, .int .i64 0, .int .i64 0, .int .i64 0, .int .i64 0, .int .i64 0, .int .i64 0, .int .i64 0, .int .i64 0, .int .i64 0, .int .i64 0, .int .i64 0, .int .i64 0, .int .i64 0, .int .i64 0, .int .i64 0, .int .i64 0, .int .i64 0, .int .i64 0, .int .i64 0, .int .i64 0, .int .i64 0, .int .i64 0, .int .i64 0, .int .i64 0, .int .i64 0, .int .i64 0, .int .i64 0, .int .i64 0, .int .i64 0, .int .i64 0, .int .i64 0] [], none, []⟩,
  ⟨none, .store 100 (.t 4) (.t 21), none, []⟩,
  ⟨some 5, .mov (.c (.int .i64 8)), none, []⟩] [2, 16, 21]
def R_paths_Strengths_5 : AC := .ops false [⟨some 22, .load 100 false (.t 2), none, []⟩,
  ⟨some 23, .call (.fn 189) [.t 22], none, []⟩,
  ⟨some 24, .build [.int .i64 0, .int .i64 0, .int .i64 0, .int .i64 0, .int .i64 0, .int .i64 0, .int .i64 0, .int .i64 0, .int .i64 0, .int .i64 0, .int .i64 0, .int .i64 0, .int .i64 0, .int .i64 0, .int .i64 0, .int .i64 0, .int .i64 0, .int .i64 0, .int .i64 0, .int .i64 0, .int .i64 0, .int .i64 0, .int .i64 0, .int .i64 0, .int .i64 0, .int .i64 0, .int .i64 0, .int .i64 0, .int .i64 0, .int .i64 0, .int .i64 0, .int .i64 0, .int .i64 0, .int .i64 0, .int .i64 0, .int .i64 0, .int .i64 0, .int .i64 0, .int .i64 0, .int .i64 0, .int .i64 0, .int .i64 0, .int .i64 0, .int .i64 0, .int .i64 0, .int .i64 0, .int .i64 0, .int .i64 0, .int .i64 0, .int .i64 0, .int .i64 0, .int .i64 0, .int .i64 0, .int .i64 0, .int .i64 0, .int .i64 0, .int .i64 0, .int .i64 0, .int .i64 0, .int .i64 0, .int .i64 0, .int .i64 0, .int .i64 0, .int .i64 0, .int .i64 0, .int .i64 0, .int .i64 0, .int .i64 0, .int .i64 0, .int .i64 0, .int .i64 0, .int .i64 0, .int .i64 0, .int .i64 0, .int .i64 0, .int .i64 0, .int .i64 0, .int .i64 0, .int .i64 0, .int .i64 0, .int .i64 0, .int .i64 0, .int .i64 0, .int .i64 0, .int .i64 0, .int .i64 0, .int .i64 0, .int .i64 0, .int .i64 0, .int .i64 0, .int .i64 0, .int .i64 0, .int .i64 0, .int .i64 0, .int .i64 0, .int .i64 0, .int .i64 0, .int .i64 0, .int .i64 0, .int .i64 0] [], none, []⟩,
  ⟨some 6, .alloc [.int .i64 0, .int .i64 0, .int .i64 0, .int .i64 0, .int .i64 0, .int .i64 0, .int .i64 0, .int .i64 0, .int .i64 0, .int .i64 0, .int .i64 0, .int .i64 0, .int .i64 0, .int .i64 0, .int .i64 0, .int .i64 0, .int .i64 0, .int .i64 0, .int .i64 0, .int .i64 0, .int .i64 0, .int .i64 0, .int .i64 0, .int .i64 0, .int .i64 0, .int .i64 0, .int .i64 0, .int .i64 0, .int .i64 0, .int .i64 0, .int .i64 0, .int .i64 0, .int .i64 0, .int .i64 0, .int .i64 0, .int .i64 0, .int .i64 0, .int .i64 0, .int .i64 0, .int .i64 0, .int .i64 0, .int .i64 0, .int .i64 0, .int .i64 0, .int .i64 0, .int .i64 0, .int .i64 0, .int .i64 0, .int .i64 0, .int .i64 0, .int .i64 0, .int .i64 0, .int .i64 0, .int .i64 0, .int .i64 0, .int .i64 0, .int .i64 0, .int .i64 0, .int .i64 0, .int .i64 0, .int .i64 0, .int .i64 0, .int .i64 0, .int .i64 0, .int .i64 0, .int .i64 0, .int .i64 0, .int .i64 0, .int .i64 0, .int .i64 0, .int .i64 0, .int .i64 0, .int .i64 0, .int .i64 0, .int .i64 0, .int .i64 0, .int .i64 0, .int .i64 0, .int .i64 0, .int .i64 0, .int .i64 0, .int .i64 0, .int .i64 0, .int .i64 0, .int .i64 0, .int .i64 0, .int .i64 0, .int .i64 0, .int .i64 0, .int .i64 0, .int .i64 0, .int .i64 0, .int .i64 0, .int .i64 0, .int .i64 0, .int .i64 0, .int .i64 0, .int .i64 0, .int .i64 0, .int .i64 0], none, []⟩,
  ⟨some 7, .alloc [.int .i64 0, .int .i64 0, .int .i64 0, .int .i64 0, .int .i64 0, .int .i64 0, .int .i64 0, .int .i64 0, .int .i64 0, .int .i64 0, .int .i64 0, .int .i64 0, .int .i64 0, .int .i64 0, .int .i64 0, .int .i64 0, .int .i64 0, .int .i64 0, .int .i64 0, .int .i64 0, .int .i64 0, .int .i64 0, .int .i64 0, .int .i64 0, .int .i64 0, .int .i64 0, .int .i64 0, .int .i64 0, .int .i64 0, .int .i64 0, .int .i64 0, .int .i64 0, .int .i64 0, .int .i64 0, .int .i64 0, .int .i64 0, .int .i64 0, .int .i64 0, .int .i64 0, .int .i64 0, .int .i64 0, .int .i64 0, .int .i64 0, .int .i64 0, .int .i64 0, .int .i64 0, .int .i64 0, .int .i64 0, .int .i64 0, .int .i64 0, .int .i64 0, .int .i64 0, .int .i64 0, .int .i64 0, .int .i64 0, .int .i64 0, .int .i64 0, .int .i64 0, .int .i64 0, .int .i64 0, .int .i64 0, .int .i64 0, .int .i64 0, .int .i64 0, .int .i64 0, .int .i64 0, .int .i64 0, .int .i64 0, .int .i64 0, .int .i64 0, .int .i64 0, .int .i64 0, .int .i64 0, .int .i64 0, .int .i64 0, .int .i64 0, .int .i64 0, .int .i64 0, .int .i64 0, .int .i64 0, .int .i64 0, .int .i64 0, .int .i64 0, .int .i64 0, .int .i64 0, .int .i64 0, .int .i64 0, .int .i64 0, .int .i64 0, .int .i64 0, .int .i64 0, .int .i64 0, .int .i64 0, .int .i64 0, .int .i64 0, .int .i64 0, .int .i64 0, .int .i64 0, .int .i64 0, .int .i64 0], none, []⟩,
  ⟨none, .store 100 (.t 6) (.t 23), none, []⟩,
  ⟨none, .store 100 (.t 7) (.t 24), none, []⟩] [2, 16, 22, 23, 24]
def R_paths_Strengths_6 : AC := .ops false [⟨some 25, .load 100 false (.t 6), none, []⟩,
  ⟨some 26, .load 100 false (.t 7), none, []⟩,
  ⟨some 27, .acmp (.arr 10 10 false (.arr 10 1 true (.leaf 0))) true (.t 25) (.t 26), none, []⟩] [25, 26]
def R_paths_Strengths_7 : AC := .ops true [⟨some 28, .slicea 10 10 (.t 7) none none none, none, []⟩,
  ⟨some 29, .slicea 10 10 (.t 6) none none none, none, []⟩,
  ⟨some 30, .copy 10 (.t 28) (.t 29), none, [0, 1]⟩] [27, 28, 29, 30]
def R_paths_Strengths_8 : AC := .ops false [⟨some 31, .load 100 false (.t 6), none, []⟩,
  ⟨some 32, .call (.fn 190) [.t 31], none, []⟩,
  ⟨none, .store 100 (.t 6) (.t 32), none, []⟩] [31, 32]
def L_paths_Strengths_1 : AC := (.seq (.seq R_paths_Strengths_6 (.cond (.t 27) .skip (.exit 1))) (.block 2 (.seq R_paths_Strengths_7 R_paths_Strengths_8)))
def R_paths_Strengths_9 : AC := .ops false [⟨some 33, .load 100 false (.t 6), none, []⟩,
  ⟨none, .store 100 (.t 4) (.t 33), none, []⟩,
  ⟨some 5, .mov (.c (.int .i64 0)), none, []⟩] [6, 7, 27, 33]
def F_paths_Strengths : AFunc := { ntmps := 34, nargs := 2, kills := [[0, 5], [9, 10, 11, 12, 13, 14], [1, 2, 8, 15], [1, 8, 17, 18, 19, 20], [2, 16, 21], [2, 16, 22, 23, 24], [25, 26], [27, 28, 29, 30], [31, 32], [6, 7, 27, 33]], results := [.cell 4 100 false, .t 5], body := (.seq R_paths_Strengths_0 (.seq (.block 0 (.seq R_paths_Strengths_1 (.cond (.t 8) (.seq R_paths_Strengths_2 .ret) (.seq R_paths_Strengths_3 (.cond (.t 16) (.seq R_paths_Strengths_4 .ret) .skip))))) (.seq R_paths_Strengths_5 (.seq (.block 1 (.loop L_paths_Strengths_1)) (.seq R_paths_Strengths_9 .ret))))) }
noncomputable def T130 : { F : AFunc // CT.func [[0, 5], [9, 10, 11, 12, 13, 14], [1, 2, 8, 15], [1, 8, 17, 18, 19, 20], [2, 16, 21], [2, 16, 22, 23, 24], [25, 26], [27, 28, 29, 30], [31, 32], [6, 7, 27, 33]] Tryz.f130 = some F } := ⟨F_paths_Strengths, by kernel_rfl⟩
theorem c130 : Cert 130 T130.1 := cert_of T130.2 Tryz.func130
end Go.Proofs.YtmkaekblmbjhpaaGreat
