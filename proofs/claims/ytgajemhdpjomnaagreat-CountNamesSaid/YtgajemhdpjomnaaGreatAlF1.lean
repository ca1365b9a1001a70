/- The functions in the abstract language, printed by a program. -/
import Derived.Test.YtgajemhdpjomnaaGreatAlA
set_option linter.unusedVariables false
set_option maxRecDepth 100000
namespace Go.Proofs.YtgajemhdpjomnaaGreat
-- suffrage/ballot.within
def R_ballot_within_0 : AC := .ops false [⟨some 6, .mov (.c (.bool false)), none, []⟩] [6]
def R_ballot_within_1 : AC := .ops false [⟨some 7, .mov (.t 0), none, []⟩,
  ⟨some 8, .mov (.t 1), none, []⟩,
  ⟨some 9, .bin .geq (.t 7) (.t 8), none, []⟩,
  ⟨some 10, .mov (.t 9), none, []⟩,
  ⟨some 11, .mov (.t 0), some (10, true), []⟩,
  ⟨some 12, .mov (.t 2), some (10, true), []⟩,
  ⟨some 13, .bin .lss (.t 11) (.t 12), some (10, true), []⟩,
  ⟨some 14, .pick (.t 10) (.t 13) (.c (.bool false)), none, []⟩,
  ⟨some 6, .mov (.t 14), none, []⟩] [0, 1, 2, 7, 8, 9, 10, 11, 12, 13, 14]
def F_ballot_within : AFunc := { ntmps := 15, nargs := 3, kills := [[6], [0, 1, 2, 7, 8, 9, 10, 11, 12, 13, 14]], results := [.t 6], body := (.seq R_ballot_within_0 (.seq R_ballot_within_1 .ret)) }
abbrev k_ballot_within : Nat := 95
-- suffrage/ballot.fine
def R_ballot_fine_0 : AC := .ops false [⟨some 2, .box (.t 0), none, []⟩,
  ⟨some 4, .mov (.c (.bool false)), none, []⟩] [0, 4]
def R_ballot_fine_1 : AC := .ops false [⟨some 10, .fa (.t 2) 1, none, []⟩,
  ⟨some 11, .load 1 true (.t 10), none, []⟩,
  ⟨some 12, .len (.t 11), none, []⟩,
  ⟨some 13, .mov (.c (.int .i64 0)), none, []⟩] [10]
def R_ballot_fine_2 : AC := .ops false [⟨some 14, .bin .lss (.t 13) (.t 12), none, []⟩] []
def R_ballot_fine_3 : AC := .ops false [⟨some 15, .ia 1 (.t 11) (.t 13), none, []⟩,
  ⟨some 16, .load 1 true (.t 15), none, []⟩,
  ⟨some 6, .mov (.t 16), none, []⟩] [14, 15, 16]
def R_ballot_fine_4 : AC := .ops false [⟨some 17, .fa (.t 2) 0, none, []⟩,
  ⟨some 18, .load 1 true (.t 17), none, []⟩,
  ⟨some 19, .bin .neq (.t 18) (.c (.int .u8 3)), none, []⟩,
  ⟨some 20, .mov (.t 19), none, []⟩,
  ⟨some 21, .mov (.t 6), some (20, true), []⟩,
  ⟨some 22, .mov (.t 1), some (20, true), []⟩,
  ⟨some 23, .call (.fn 95) [.t 21, .c (.int .i64 0), .t 22], some (20, true), []⟩,
  ⟨some 24, .un .not (.t 23), some (20, true), []⟩,
  ⟨some 25, .pick (.t 20) (.t 24) (.c (.bool false)), none, []⟩,
  ⟨some 26, .mov (.t 25), none, []⟩,
  ⟨some 27, .fa (.t 2) 0, some (26, false), []⟩,
  ⟨some 28, .load 1 true (.t 27), some (26, false), []⟩,
  ⟨some 29, .bin .eql (.t 28) (.c (.int .u8 3)), some (26, false), []⟩,
  ⟨some 30, .mov (.t 29), some (26, false), []⟩,
  ⟨some 31, .mov (.t 6), some (30, true), []⟩,
  ⟨some 32, .call (.fn 95) [.t 31, .c (.int .i64 0), .c (.int .i64 11)], some (30, true), []⟩,
  ⟨some 33, .un .not (.t 32), some (30, true), []⟩,
  ⟨some 34, .pick (.t 30) (.t 33) (.c (.bool false)), some (26, false), []⟩,
  ⟨some 35, .pick (.t 26) (.c (.bool true)) (.t 34), none, []⟩] [6, 17, 18, 19, 20, 21, 22, 23, 24, 25, 26, 27, 28, 29, 30, 31, 32, 33, 34]
def R_ballot_fine_5 : AC := .ops false [⟨some 4, .mov (.c (.bool false)), none, []⟩] [1, 2, 11, 12, 13, 35]
def R_ballot_fine_6 : AC := .ops false [⟨some 36, .bin .add (.t 13) (.c (.int .i64 1)), none, []⟩,
  ⟨some 13, .mov (.t 36), none, []⟩] [35, 36]
def L_ballot_fine_1 : AC := (.seq R_ballot_fine_2 (.seq (.cond (.t 14) .skip (.exit 0)) (.seq (.block 1 (.seq R_ballot_fine_3 (.seq R_ballot_fine_4 (.cond (.t 35) (.seq R_ballot_fine_5 .ret) .skip)))) R_ballot_fine_6)))
def R_ballot_fine_7 : AC := .ops false [⟨some 37, .fa (.t 2) 0, none, []⟩,
  ⟨some 38, .load 1 true (.t 37), none, []⟩] [11, 12, 13, 14, 37]
def R_ballot_fine_8 : AC := .ops false [⟨some 40, .bin .eql (.t 38) (.c (.int .u8 3)), none, []⟩,
  ⟨some 39, .mov (.t 40), none, []⟩] [40]
def R_ballot_fine_9 : AC := .ops false [⟨some 42, .bin .eql (.t 38) (.c (.int .u8 2)), none, []⟩,
  ⟨some 41, .mov (.t 42), none, []⟩] [1, 39, 42]
def R_ballot_fine_10 : AC := .ops false [⟨some 44, .bin .eql (.t 38) (.c (.int .u8 1)), none, []⟩,
  ⟨some 43, .mov (.t 44), none, []⟩] [38, 41, 44]
def R_ballot_fine_11 : AC := .ops false [⟨some 45, .fa (.t 2) 1, none, []⟩,
  ⟨some 46, .load 1 true (.t 45), none, []⟩,
  ⟨some 47, .len (.t 46), none, []⟩,
  ⟨some 48, .mov (.t 1), none, []⟩,
  ⟨some 49, .bin .eql (.t 47) (.t 48), none, []⟩,
  ⟨some 4, .mov (.t 49), none, []⟩] [1, 2, 38, 39, 45, 46, 47, 48, 49]
def R_ballot_fine_12 : AC := .ops false [⟨some 50, .fa (.t 2) 1, none, []⟩,
  ⟨some 51, .load 1 true (.t 50), none, []⟩,
  ⟨some 52, .call (.fn 182) [.t 51], none, []⟩,
  ⟨some 53, .un .not (.t 52), none, []⟩] [38, 41, 50, 51, 52]
def R_ballot_fine_13 : AC := .ops false [⟨some 4, .mov (.c (.bool false)), none, []⟩] [2, 53]
def R_ballot_fine_14 : AC := .ops false [⟨some 7, .alloc [.bool false, .bool false, .bool false, .bool false, .bool false, .bool false, .bool false, .bool false, .bool false, .bool false], none, []⟩] [43, 53]
def R_ballot_fine_15 : AC := .ops false [⟨some 54, .fa (.t 2) 1, none, []⟩,
  ⟨some 55, .load 1 true (.t 54), none, []⟩,
  ⟨some 56, .len (.t 55), none, []⟩,
  ⟨some 57, .mov (.c (.int .i64 0)), none, []⟩] [2, 54]
def R_ballot_fine_16 : AC := .ops false [⟨some 58, .bin .lss (.t 57) (.t 56), none, []⟩] []
def R_ballot_fine_17 : AC := .ops false [⟨some 59, .ia 1 (.t 55) (.t 57), none, []⟩,
  ⟨some 60, .load 1 true (.t 59), none, []⟩,
  ⟨some 9, .mov (.t 60), none, []⟩] [58, 59, 60]
def R_ballot_fine_18 : AC := .ops false [⟨some 61, .mov (.t 9), none, []⟩,
  ⟨some 62, .iaa 1 10 (.t 7) (.t 61), none, []⟩,
  ⟨some 63, .load 1 true (.t 62), none, []⟩] [61, 62]
def R_ballot_fine_19 : AC := .ops false [⟨some 4, .mov (.c (.bool false)), none, []⟩] [7, 9, 55, 56, 57, 63]
def R_ballot_fine_20 : AC := .ops false [⟨some 64, .mov (.t 9), none, []⟩,
  ⟨some 65, .iaa 1 10 (.t 7) (.t 64), none, []⟩,
  ⟨none, .store 1 (.t 65) (.c (.bool true)), none, []⟩] [9, 63, 64, 65]
def R_ballot_fine_21 : AC := .ops false [⟨some 66, .bin .add (.t 57) (.c (.int .i64 1)), none, []⟩,
  ⟨some 57, .mov (.t 66), none, []⟩] [66]
def L_ballot_fine_2 : AC := (.seq R_ballot_fine_16 (.seq (.cond (.t 58) .skip (.exit 6)) (.seq (.block 7 (.seq R_ballot_fine_17 (.seq (.seq R_ballot_fine_18 (.cond (.t 63) (.seq R_ballot_fine_19 .ret) .skip)) R_ballot_fine_20))) R_ballot_fine_21)))
def R_ballot_fine_22 : AC := .ops false [⟨some 4, .mov (.c (.bool true)), none, []⟩] [7, 55, 56, 57, 58]
def R_ballot_fine_23 : AC := .ops false [⟨some 4, .mov (.c (.bool false)), none, []⟩] [2, 43]
def F_ballot_fine : AFunc := { ntmps := 67, nargs := 2, kills := [[0, 4], [10], [], [14, 15, 16], [6, 17, 18, 19, 20, 21, 22, 23, 24, 25, 26, 27, 28, 29, 30, 31, 32, 33, 34], [1, 2, 11, 12, 13, 35], [35, 36], [11, 12, 13, 14, 37], [40], [1, 39, 42], [38, 41, 44], [1, 2, 38, 39, 45, 46, 47, 48, 49], [38, 41, 50, 51, 52], [2, 53], [43, 53], [2, 54], [], [58, 59, 60], [61, 62], [7, 9, 55, 56, 57, 63], [9, 63, 64, 65], [66], [7, 55, 56, 57, 58], [2, 43]], results := [.t 4], body := (.seq R_ballot_fine_0 (.seq (.seq R_ballot_fine_1 (.block 0 (.loop L_ballot_fine_1))) (.seq (.seq R_ballot_fine_7 (.block 2 (.seq (.block 5 (.seq (.block 4 (.seq (.block 3 (.seq (.seq (.seq R_ballot_fine_8 (.cond (.t 39) (.exit 3) .skip)) (.seq (.seq R_ballot_fine_9 (.cond (.t 41) (.exit 4) .skip)) (.seq R_ballot_fine_10 (.cond (.t 43) (.exit 5) .skip)))) (.exit 2))) (.seq (.seq R_ballot_fine_11 .ret) (.exit 2)))) (.seq R_ballot_fine_12 (.cond (.t 53) (.seq R_ballot_fine_13 .ret) .skip)))) (.seq (.seq R_ballot_fine_14 (.seq (.seq R_ballot_fine_15 (.block 6 (.loop L_ballot_fine_2))) (.seq R_ballot_fine_22 .ret))) (.exit 2))))) (.seq R_ballot_fine_23 .ret)))) }
abbrev k_ballot_fine : Nat := 96
-- suffrage/contest.rules
def R_contest_rules_0 : AC := .ops false [⟨some 0, .alloc [.str [], .int .u8 0, .int .i64 0, .bool false, .str [], .int .u8 0, .int .i64 0, .bool false, .str [], .int .u8 0, .int .i64 0, .bool false, .str [], .int .u8 0, .int .i64 0, .bool false, .str [], .int .u8 0, .int .i64 0, .bool false, .str [], .int .u8 0, .int .i64 0, .bool false, .str [], .int .u8 0, .int .i64 0, .bool false, .str [], .int .u8 0, .int .i64 0, .bool false, .str [], .int .u8 0, .int .i64 0, .bool false, .str [], .int .u8 0, .int .i64 0, .bool false, .str [], .int .u8 0, .int .i64 0, .bool false, .str [], .int .u8 0, .int .i64 0, .bool false, .str [], .int .u8 0, .int .i64 0, .bool false, .str [], .int .u8 0, .int .i64 0, .bool false, .str [], .int .u8 0, .int .i64 0, .bool false, .str [], .int .u8 0, .int .i64 0, .bool false, .str [], .int .u8 0, .int .i64 0, .bool false], none, []⟩] []
def R_contest_rules_1 : AC := .ops false [⟨some 1, .build [.str [], .int .u8 0, .int .i64 0, .bool false] [(0, 1, .c (.str [112, 108, 117, 114, 97, 108, 105, 116, 121])), (1, 1, .c (.int .u8 2)), (2, 1, .c (.int .i64 2)), (3, 1, .c (.bool true))], none, []⟩,
  ⟨some 2, .build [.str [], .int .u8 0, .int .i64 0, .bool false] [(0, 1, .c (.str [97, 112, 112, 114, 111, 118, 97, 108])), (1, 1, .c (.int .u8 2)), (2, 1, .c (.int .i64 2)), (3, 1, .c (.bool false))], none, []⟩,
  ⟨some 3, .build [.str [], .int .u8 0, .int .i64 0, .bool false] [(0, 1, .c (.str [115, 99, 111, 114, 101])), (1, 1, .c (.int .u8 3)), (2, 1, .c (.int .i64 2)), (3, 1, .c (.bool false))], none, []⟩,
  ⟨some 4, .build [.str [], .int .u8 0, .int .i64 0, .bool false] [(0, 1, .c (.str [98, 111, 114, 100, 97])), (1, 1, .c (.int .u8 1)), (2, 1, .c (.int .i64 2)), (3, 1, .c (.bool false))], none, []⟩,
  ⟨some 5, .build [.str [], .int .u8 0, .int .i64 0, .bool false] [(0, 1, .c (.str [99, 111, 112, 101, 108, 97, 110, 100])), (1, 1, .c (.int .u8 1)), (2, 1, .c (.int .i64 1)), (3, 1, .c (.bool false))], none, []⟩,
  ⟨some 6, .build [.str [], .int .u8 0, .int .i64 0, .bool false] [(0, 1, .c (.str [109, 105, 110, 105, 109, 97, 120])), (1, 1, .c (.int .u8 1)), (2, 1, .c (.int .i64 1)), (3, 1, .c (.bool false))], none, []⟩,
  ⟨some 7, .build [.str [], .int .u8 0, .int .i64 0, .bool false] [(0, 1, .c (.str [115, 99, 104, 117, 108, 122, 101])), (1, 1, .c (.int .u8 1)), (2, 1, .c (.int .i64 1)), (3, 1, .c (.bool false))], none, []⟩,
  ⟨some 8, .build [.str [], .int .u8 0, .int .i64 0, .bool false] [(0, 1, .c (.str [112, 97, 105, 114, 115])), (1, 1, .c (.int .u8 1)), (2, 1, .c (.int .i64 1)), (3, 1, .c (.bool false))], none, []⟩,
  ⟨some 9, .build [.str [], .int .u8 0, .int .i64 0, .bool false] [(0, 1, .c (.str [114, 117, 110, 111, 102, 102])), (1, 1, .c (.int .u8 1)), (2, 1, .c (.int .i64 1)), (3, 1, .c (.bool false))], none, []⟩,
  ⟨some 10, .build [.str [], .int .u8 0, .int .i64 0, .bool false] [(0, 1, .c (.str [99, 111, 111, 109, 98, 115])), (1, 1, .c (.int .u8 1)), (2, 1, .c (.int .i64 1)), (3, 1, .c (.bool false))], none, []⟩,
  ⟨some 11, .build [.str [], .int .u8 0, .int .i64 0, .bool false] [(0, 1, .c (.str [103, 114, 101, 103, 111, 114, 121])), (1, 1, .c (.int .u8 1)), (2, 1, .c (.int .i64 2)), (3, 1, .c (.bool false))], none, []⟩,
  ⟨some 12, .build [.str [], .int .u8 0, .int .i64 0, .bool false] [(0, 1, .c (.str [109, 101, 101, 107])), (1, 1, .c (.int .u8 1)), (2, 1, .c (.int .i64 2)), (3, 1, .c (.bool false))], none, []⟩,
  ⟨some 13, .build [.str [], .int .u8 0, .int .i64 0, .bool false] [(0, 1, .c (.str [112, 104, 114, 97, 103, 109, 101, 110])), (1, 1, .c (.int .u8 2)), (2, 1, .c (.int .i64 2)), (3, 1, .c (.bool false))], none, []⟩,
  ⟨some 14, .build [.str [], .int .u8 0, .int .i64 0, .bool false] [(0, 1, .c (.str [100, 104, 111, 110, 100, 116])), (1, 1, .c (.int .u8 2)), (2, 1, .c (.int .i64 3)), (3, 1, .c (.bool true))], none, []⟩,
  ⟨some 15, .build [.str [], .int .u8 0, .int .i64 0, .bool false] [(0, 1, .c (.str [115, 97, 105, 110, 116, 101])), (1, 1, .c (.int .u8 2)), (2, 1, .c (.int .i64 3)), (3, 1, .c (.bool true))], none, []⟩,
  ⟨some 16, .build [.str [], .int .u8 0, .int .i64 0, .bool false] [(0, 1, .c (.str [104, 97, 114, 101])), (1, 1, .c (.int .u8 2)), (2, 1, .c (.int .i64 3)), (3, 1, .c (.bool true))], none, []⟩,
  ⟨some 17, .build [.str [], .int .u8 0, .int .i64 0, .bool false, .str [], .int .u8 0, .int .i64 0, .bool false, .str [], .int .u8 0, .int .i64 0, .bool false, .str [], .int .u8 0, .int .i64 0, .bool false, .str [], .int .u8 0, .int .i64 0, .bool false, .str [], .int .u8 0, .int .i64 0, .bool false, .str [], .int .u8 0, .int .i64 0, .bool false, .str [], .int .u8 0, .int .i64 0, .bool false, .str [], .int .u8 0, .int .i64 0, .bool false, .str [], .int .u8 0, .int .i64 0, .bool false, .str [], .int .u8 0, .int .i64 0, .bool false, .str [], .int .u8 0, .int .i64 0, .bool false, .str [], .int .u8 0, .int .i64 0, .bool false, .str [], .int .u8 0, .int .i64 0, .bool false, .str [], .int .u8 0, .int .i64 0, .bool false, .str [], .int .u8 0, .int .i64 0, .bool false, .str [], .int .u8 0, .int .i64 0, .bool false] [(4, 4, .t 1), (8, 4, .t 2), (12, 4, .t 3), (16, 4, .t 4), (20, 4, .t 5), (24, 4, .t 6), (28, 4, .t 7), (32, 4, .t 8), (36, 4, .t 9), (40, 4, .t 10), (44, 4, .t 11), (48, 4, .t 12), (52, 4, .t 13), (56, 4, .t 14), (60, 4, .t 15), (64, 4, .t 16)], none, []⟩,
  ⟨none, .store 68 (.t 0) (.t 17), none, []⟩] [1, 2, 3, 4, 5, 6, 7, 8, 9, 10, 11, 12, 13, 14, 15, 16, 17]
def F_contest_rules : AFunc := { ntmps := 18, nargs := 0, kills := [[], [1, 2, 3, 4, 5, 6, 7, 8, 9, 10, 11, 12, 13, 14, 15, 16, 17]], results := [.cell 0 68 false], body := (.seq R_contest_rules_0 (.seq R_contest_rules_1 .ret)) }
abbrev k_contest_rules : Nat := 97
-- suffrage/single.marked
def R_single_marked_0 : AC := .ops false [⟨some 4, .mov (.c (.nilm)), none, []⟩] [1, 4]
def R_single_marked_1 : AC := .ops false [⟨some 8, .mkmap none, none, []⟩,
  ⟨some 5, .mov (.t 8), none, []⟩] [8]
def R_single_marked_2 : AC := .ops false [⟨some 9, .mov (.t 0), none, []⟩,
  ⟨some 10, .len (.t 9), none, []⟩,
  ⟨some 11, .mov (.c (.int .i64 0)), none, []⟩] [0]
def R_single_marked_3 : AC := .ops false [⟨some 12, .bin .lss (.t 11) (.t 10), none, []⟩] []
def R_single_marked_4 : AC := .ops false [⟨some 13, .ia 1 (.t 9) (.t 11), none, []⟩,
  ⟨some 14, .load 1 true (.t 13), none, []⟩,
  ⟨some 7, .mov (.t 14), none, []⟩] [12, 13, 14]
def R_single_marked_5 : AC := .ops false [⟨some 15, .mov (.t 5), none, []⟩,
  ⟨some 16, .mov (.t 7), none, []⟩,
  ⟨none, .mset 0 (.t 15) (.t 16) (.c (.int .i64 1)), none, []⟩] [7, 15, 16]
def R_single_marked_6 : AC := .ops false [⟨some 17, .bin .add (.t 11) (.c (.int .i64 1)), none, []⟩,
  ⟨some 11, .mov (.t 17), none, []⟩] [17]
def L_single_marked_1 : AC := (.seq R_single_marked_3 (.seq (.cond (.t 12) .skip (.exit 0)) (.seq (.block 1 (.seq R_single_marked_4 R_single_marked_5)) R_single_marked_6)))
def R_single_marked_7 : AC := .ops false [⟨some 18, .mov (.t 5), none, []⟩,
  ⟨some 4, .mov (.t 18), none, []⟩] [5, 9, 10, 11, 12, 18]
def F_single_marked : AFunc := { ntmps := 19, nargs := 2, kills := [[1, 4], [8], [0], [], [12, 13, 14], [7, 15, 16], [17], [5, 9, 10, 11, 12, 18]], results := [.t 4], body := (.seq R_single_marked_0 (.seq R_single_marked_1 (.seq (.seq R_single_marked_2 (.block 0 (.loop L_single_marked_1))) (.seq R_single_marked_7 .ret)))) }
abbrev k_single_marked : Nat := 98
-- suffrage/single.alone
def R_single_alone_0 : AC := .ops false [⟨some 2, .mov (.c (.bool false)), none, []⟩] [2]
def R_single_alone_1 : AC := .ops false [⟨some 3, .mov (.t 0), none, []⟩,
  ⟨some 4, .len (.t 3), none, []⟩,
  ⟨some 5, .bin .neq (.t 4) (.c (.int .i64 1)), none, []⟩,
  ⟨some 2, .mov (.t 5), none, []⟩] [0, 3, 4, 5]
def F_single_alone : AFunc := { ntmps := 6, nargs := 1, kills := [[2], [0, 3, 4, 5]], results := [.t 2], body := (.seq R_single_alone_0 (.seq R_single_alone_1 .ret)) }
abbrev k_single_alone : Nat := 99
-- (suffrage/single.rule).count
def R_single_rule_count_0 : AC := .ops false [⟨some 4, .box (.t 0), none, []⟩,
  ⟨some 5, .box (.t 1), none, []⟩,
  ⟨some 8, .alloc [.lst 0 [] (some 0), .lst 0 [] (some 0), .lst 0 [] (some 0)], none, []⟩,
  ⟨some 9, .mov (.c (.int .i64 0)), none, []⟩] [0, 1, 9]
def R_single_rule_count_1 : AC := .ops false [⟨some 17, .load 3 false (.t 5), none, []⟩,
  ⟨some 18, .fa (.t 4) 0, none, []⟩,
  ⟨some 19, .load 1 true (.t 18), none, []⟩,
  ⟨some 20, .mov (.t 2), none, []⟩,
  ⟨some 21, .fa (.t 5) 0, none, []⟩,
  ⟨some 22, .load 1 true (.t 21), none, []⟩,
  ⟨some 23, .mov (.t 3), none, []⟩,
  ⟨some 24, .call (.fn 110) [.t 17, .t 19, .t 20, .t 22, .t 23], none, []⟩,
  ⟨some 10, .mov (.t 24), none, []⟩] [17, 18, 19, 20, 21, 22, 23, 24]
def R_single_rule_count_2 : AC := .ops false [⟨some 25, .mov (.t 10), none, []⟩,
  ⟨some 26, .bin .neq (.t 25) (.c (.int .i64 0)), none, []⟩] [25]
def R_single_rule_count_3 : AC := .ops false [⟨some 27, .build [.lst 0 [] (some 0), .lst 0 [] (some 0), .lst 0 [] (some 0)] [], none, []⟩,
  ⟨some 28, .mov (.t 10), none, []⟩,
  ⟨none, .store 3 (.t 8) (.t 27), none, []⟩,
  ⟨some 9, .mov (.t 28), none, []⟩] [2, 3, 4, 5, 10, 26, 27, 28]
def R_single_rule_count_4 : AC := .ops false [⟨some 29, .fa (.t 5) 0, none, []⟩,
  ⟨some 30, .load 1 true (.t 29), none, []⟩,
  ⟨some 31, .mkslice 1 8 [.int .i64 0] (.t 30) (.t 30), none, []⟩,
  ⟨some 11, .mov (.t 31), none, []⟩,
  ⟨some 12, .mov (.c (.int .i64 0)), none, []⟩] [10, 26, 29, 30, 31]
def R_single_rule_count_5 : AC := .ops false [⟨some 32, .fa (.t 5) 2, none, []⟩,
  ⟨some 33, .load 1 true (.t 32), none, []⟩,
  ⟨some 34, .len (.t 33), none, []⟩,
  ⟨some 35, .mov (.c (.int .i64 0)), none, []⟩] [32]
def R_single_rule_count_6 : AC := .ops false [⟨some 36, .bin .lss (.t 35) (.t 34), none, []⟩] []
def R_single_rule_count_7 : AC := .ops false [⟨some 37, .ia 2 (.t 33) (.t 35), none, []⟩,
  ⟨some 38, .load 2 false (.t 37), none, []⟩,
  ⟨some 14, .alloc [.lst 0 [] (some 0), .int .i64 0], none, []⟩,
  ⟨none, .store 2 (.t 14) (.t 38), none, []⟩] [36, 37, 38]
def R_single_rule_count_8 : AC := .ops false [⟨some 39, .fa (.t 4) 2, none, []⟩,
  ⟨some 40, .load 1 true (.t 39), none, []⟩,
  ⟨some 41, .fa (.t 14) 0, none, []⟩,
  ⟨some 42, .load 1 true (.t 41), none, []⟩,
  ⟨some 43, .call (.dyn (.t 40)) [.t 42], none, []⟩] [39, 40, 41, 42]
def R_single_rule_count_9 : AC := .ops false [⟨some 44, .mov (.t 12), none, []⟩,
  ⟨some 45, .fa (.t 14) 1, none, []⟩,
  ⟨some 46, .load 1 true (.t 45), none, []⟩,
  ⟨some 47, .bin .add (.t 44) (.t 46), none, []⟩,
  ⟨some 12, .mov (.t 47), none, []⟩] [14, 43, 44, 45, 46, 47]
def R_single_rule_count_10 : AC := .ops false [⟨some 48, .fa (.t 4) 1, none, []⟩,
  ⟨some 49, .load 1 true (.t 48), none, []⟩,
  ⟨some 50, .fa (.t 14) 0, none, []⟩,
  ⟨some 51, .load 1 true (.t 50), none, []⟩,
  ⟨some 52, .fa (.t 5) 0, none, []⟩,
  ⟨some 53, .load 1 true (.t 52), none, []⟩,
  ⟨some 54, .call (.dyn (.t 49)) [.t 51, .t 53], none, []⟩,
  ⟨some 55, .no, none, []⟩] [43, 48, 49, 50, 51, 52, 53, 54]
def R_single_rule_count_11 : AC := .ops false [⟨some 56, .no, none, []⟩,
  ⟨some 57, .ext (.t 56) 0, none, []⟩] [56]
def R_single_rule_count_12 : AC := .ops false [⟨some 58, .no, none, []⟩,
  ⟨some 59, .ext (.t 58) 0, none, []⟩,
  ⟨some 60, .ext (.t 58) 1, none, []⟩,
  ⟨some 15, .mov (.t 59), none, []⟩,
  ⟨some 16, .mov (.t 60), none, []⟩] [57, 58, 59, 60]
def R_single_rule_count_13 : AC := .ops true [⟨some 61, .mov (.t 11), none, []⟩,
  ⟨some 62, .mov (.t 15), none, []⟩,
  ⟨some 63, .ia 1 (.t 61) (.t 62), none, [0, 1]⟩,
  ⟨some 64, .load 1 true (.t 63), none, [2]⟩,
  ⟨some 65, .mov (.t 16), none, []⟩,
  ⟨some 66, .fa (.t 14) 1, none, []⟩,
  ⟨some 67, .load 1 true (.t 66), none, [5]⟩,
  ⟨some 68, .bin .mul (.t 65) (.t 67), none, [4, 6]⟩,
  ⟨some 69, .bin .add (.t 64) (.t 68), none, [3, 7]⟩,
  ⟨some 70, .ia 1 (.t 61) (.t 62), none, [0, 1, 0, 1, 2, 3, 4, 5, 6, 7, 8]⟩,
  ⟨none, .store 1 (.t 70) (.t 69), none, [9, 8, 0, 1, 2, 3, 4, 5, 6, 7, 8]⟩] [15, 16, 61, 62, 63, 64, 65, 66, 67, 68, 69, 70]
def L_single_rule_count_1 : AC := (.seq R_single_rule_count_11 (.seq (.cond (.t 57) .skip (.exit 2)) (.block 3 (.seq R_single_rule_count_12 R_single_rule_count_13))))
def R_single_rule_count_14 : AC := .ops false [⟨some 71, .bin .add (.t 35) (.c (.int .i64 1)), none, []⟩,
  ⟨some 35, .mov (.t 71), none, []⟩] [14, 55, 57, 71]
def L_single_rule_count_2 : AC := (.seq R_single_rule_count_6 (.seq (.cond (.t 36) .skip (.exit 0)) (.seq (.block 1 (.seq R_single_rule_count_7 (.seq (.seq R_single_rule_count_8 (.cond (.t 43) (.seq R_single_rule_count_9 (.exit 1)) .skip)) (.seq R_single_rule_count_10 (.block 2 (.loop L_single_rule_count_1)))))) R_single_rule_count_14)))
def R_single_rule_count_15 : AC := .ops false [⟨some 72, .mov (.t 3), none, []⟩,
  ⟨some 73, .call (.fn 113) [.t 72], none, []⟩,
  ⟨some 74, .mov (.t 11), none, []⟩,
  ⟨some 75, .mov (.t 12), none, []⟩,
  ⟨some 76, .mov (.t 2), none, []⟩,
  ⟨some 77, .call (.fn 183) [.t 73, .t 74, .t 75, .t 76], none, []⟩,
  ⟨none, .store 3 (.t 8) (.t 77), none, []⟩,
  ⟨some 9, .mov (.c (.int .i64 0)), none, []⟩] [2, 3, 4, 5, 11, 12, 33, 34, 35, 36, 72, 73, 74, 75, 76, 77]
def F_single_rule_count : AFunc := { ntmps := 78, nargs := 4, kills := [[0, 1, 9], [17, 18, 19, 20, 21, 22, 23, 24], [25], [2, 3, 4, 5, 10, 26, 27, 28], [10, 26, 29, 30, 31], [32], [], [36, 37, 38], [39, 40, 41, 42], [14, 43, 44, 45, 46, 47], [43, 48, 49, 50, 51, 52, 53, 54], [56], [57, 58, 59, 60], [15, 16, 61, 62, 63, 64, 65, 66, 67, 68, 69, 70], [14, 55, 57, 71], [2, 3, 4, 5, 11, 12, 33, 34, 35, 36, 72, 73, 74, 75, 76, 77]], results := [.cell 8 3 false, .t 9], body := (.seq R_single_rule_count_0 (.seq (.seq R_single_rule_count_1 (.seq R_single_rule_count_2 (.cond (.t 26) (.seq R_single_rule_count_3 .ret) .skip))) (.seq R_single_rule_count_4 (.seq (.seq R_single_rule_count_5 (.block 0 (.loop L_single_rule_count_2))) (.seq R_single_rule_count_15 .ret))))) }
abbrev k_single_rule_count : Nat := 100
-- suffrage/single.never
def R_single_never_0 : AC := .ops false [⟨some 2, .mov (.c (.bool false)), none, []⟩] [0, 2]
def R_single_never_1 : AC := .ops false [⟨some 2, .mov (.c (.bool false)), none, []⟩] []
def F_single_never : AFunc := { ntmps := 3, nargs := 1, kills := [[0, 2], []], results := [.t 2], body := (.seq R_single_never_0 (.seq R_single_never_1 .ret)) }
abbrev k_single_never : Nat := 101
-- suffrage/single.scored
def R_single_scored_0 : AC := .ops false [⟨some 4, .mov (.c (.nilm)), none, []⟩] [1, 4]
def R_single_scored_1 : AC := .ops false [⟨some 8, .mkmap none, none, []⟩,
  ⟨some 5, .mov (.t 8), none, []⟩] [8]
def R_single_scored_2 : AC := .ops false [⟨some 9, .mov (.t 0), none, []⟩,
  ⟨some 10, .len (.t 9), none, []⟩,
  ⟨some 11, .mov (.c (.int .i64 0)), none, []⟩] [0]
def R_single_scored_3 : AC := .ops false [⟨some 12, .bin .lss (.t 11) (.t 10), none, []⟩] []
def R_single_scored_4 : AC := .ops false [⟨some 13, .mov (.t 11), none, []⟩,
  ⟨some 14, .ia 1 (.t 9) (.t 11), none, []⟩,
  ⟨some 15, .load 1 true (.t 14), none, []⟩,
  ⟨some 6, .mov (.t 13), none, []⟩,
  ⟨some 7, .mov (.t 15), none, []⟩] [12, 13, 14, 15]
def R_single_scored_5 : AC := .ops false [⟨some 16, .mov (.t 5), none, []⟩,
  ⟨some 17, .mov (.t 6), none, []⟩,
  ⟨some 18, .mov (.t 7), none, []⟩,
  ⟨none, .mset 0 (.t 16) (.t 17) (.t 18), none, []⟩] [6, 7, 16, 17, 18]
def R_single_scored_6 : AC := .ops false [⟨some 19, .bin .add (.t 11) (.c (.int .i64 1)), none, []⟩,
  ⟨some 11, .mov (.t 19), none, []⟩] [19]
def L_single_scored_1 : AC := (.seq R_single_scored_3 (.seq (.cond (.t 12) .skip (.exit 0)) (.seq (.block 1 (.seq R_single_scored_4 R_single_scored_5)) R_single_scored_6)))
def R_single_scored_7 : AC := .ops false [⟨some 20, .mov (.t 5), none, []⟩,
  ⟨some 4, .mov (.t 20), none, []⟩] [5, 9, 10, 11, 12, 20]
def F_single_scored : AFunc := { ntmps := 21, nargs := 2, kills := [[1, 4], [8], [0], [], [12, 13, 14, 15], [6, 7, 16, 17, 18], [19], [5, 9, 10, 11, 12, 20]], results := [.t 4], body := (.seq R_single_scored_0 (.seq R_single_scored_1 (.seq (.seq R_single_scored_2 (.block 0 (.loop L_single_scored_1))) (.seq R_single_scored_7 .ret)))) }
abbrev k_single_scored : Nat := 102
-- suffrage/single.ranked
def R_single_ranked_0 : AC := .ops false [⟨some 4, .mov (.c (.nilm)), none, []⟩] [4]
def R_single_ranked_1 : AC := .ops false [⟨some 8, .mkmap none, none, []⟩,
  ⟨some 5, .mov (.t 8), none, []⟩] [8]
def R_single_ranked_2 : AC := .ops false [⟨some 9, .mov (.t 0), none, []⟩,
  ⟨some 10, .len (.t 9), none, []⟩,
  ⟨some 11, .mov (.c (.int .i64 0)), none, []⟩] [0]
def R_single_ranked_3 : AC := .ops false [⟨some 12, .bin .lss (.t 11) (.t 10), none, []⟩] []
def R_single_ranked_4 : AC := .ops false [⟨some 13, .mov (.t 11), none, []⟩,
  ⟨some 14, .ia 1 (.t 9) (.t 11), none, []⟩,
  ⟨some 15, .load 1 true (.t 14), none, []⟩,
  ⟨some 6, .mov (.t 13), none, []⟩,
  ⟨some 7, .mov (.t 15), none, []⟩] [12, 13, 14, 15]
def R_single_ranked_5 : AC := .ops false [⟨some 16, .mov (.t 5), none, []⟩,
  ⟨some 17, .mov (.t 7), none, []⟩,
  ⟨some 18, .mov (.t 1), none, []⟩,
  ⟨some 19, .bin .sub (.t 18) (.c (.int .i64 1)), none, []⟩,
  ⟨some 20, .mov (.t 6), none, []⟩,
  ⟨some 21, .bin .sub (.t 19) (.t 20), none, []⟩,
  ⟨none, .mset 0 (.t 16) (.t 17) (.t 21), none, []⟩] [6, 7, 16, 17, 18, 19, 20, 21]
def R_single_ranked_6 : AC := .ops false [⟨some 22, .bin .add (.t 11) (.c (.int .i64 1)), none, []⟩,
  ⟨some 11, .mov (.t 22), none, []⟩] [22]
def L_single_ranked_1 : AC := (.seq R_single_ranked_3 (.seq (.cond (.t 12) .skip (.exit 0)) (.seq (.block 1 (.seq R_single_ranked_4 R_single_ranked_5)) R_single_ranked_6)))
def R_single_ranked_7 : AC := .ops false [⟨some 23, .mov (.t 5), none, []⟩,
  ⟨some 4, .mov (.t 23), none, []⟩] [1, 5, 9, 10, 11, 12, 23]
def F_single_ranked : AFunc := { ntmps := 24, nargs := 2, kills := [[4], [8], [0], [], [12, 13, 14, 15], [6, 7, 16, 17, 18, 19, 20, 21], [22], [1, 5, 9, 10, 11, 12, 23]], results := [.t 4], body := (.seq R_single_ranked_0 (.seq R_single_ranked_1 (.seq (.seq R_single_ranked_2 (.block 0 (.loop L_single_ranked_1))) (.seq R_single_ranked_7 .ret)))) }
abbrev k_single_ranked : Nat := 103
-- suffrage/condorcet.Copeland$1
def R_condorcet_Copeland_1_0 : AC := .ops false [⟨some 3, .box (.t 0), none, []⟩,
  ⟨some 5, .mov (.c (.int .i64 0)), none, []⟩] [0]
def R_condorcet_Copeland_1_1 : AC := .ops false [⟨some 8, .fa (.t 2) 0, none, []⟩,
  ⟨some 9, .load 1 true (.t 8), none, []⟩,
  ⟨some 10, .mov (.c (.int .i64 0)), none, []⟩] [2, 8]
def R_condorcet_Copeland_1_2 : AC := .ops false [⟨some 11, .bin .lss (.t 10) (.t 9), none, []⟩] []
def R_condorcet_Copeland_1_3 : AC := .ops false [⟨some 12, .mov (.t 10), none, []⟩,
  ⟨some 6, .mov (.t 12), none, []⟩] [11, 12]
def R_condorcet_Copeland_1_4 : AC := .ops false [⟨some 13, .load 100 false (.t 3), none, []⟩,
  ⟨some 14, .mov (.t 1), none, []⟩,
  ⟨some 15, .mov (.t 6), none, []⟩,
  ⟨some 16, .call (.fn 105) [.t 13, .t 14, .t 15], none, []⟩,
  ⟨some 7, .mov (.t 16), none, []⟩] [13, 14, 15, 16]
def R_condorcet_Copeland_1_5 : AC := .ops false [⟨some 18, .mov (.t 7), none, []⟩,
  ⟨some 19, .bin .gtr (.t 18) (.c (.int .i64 0)), none, []⟩,
  ⟨some 17, .mov (.t 19), none, []⟩] [18, 19]
def R_condorcet_Copeland_1_6 : AC := .ops false [⟨some 20, .mov (.t 5), none, []⟩,
  ⟨some 21, .bin .add (.t 20) (.c (.int .i64 2)), none, []⟩,
  ⟨some 5, .mov (.t 21), none, []⟩] [6, 7, 17, 20, 21]
def R_condorcet_Copeland_1_7 : AC := .ops false [⟨some 23, .mov (.t 7), none, []⟩,
  ⟨some 24, .bin .eql (.t 23) (.c (.int .i64 0)), none, []⟩,
  ⟨some 25, .mov (.t 24), none, []⟩,
  ⟨some 26, .mov (.t 1), some (25, true), []⟩,
  ⟨some 27, .mov (.t 6), some (25, true), []⟩,
  ⟨some 28, .bin .neq (.t 26) (.t 27), some (25, true), []⟩,
  ⟨some 29, .pick (.t 25) (.t 28) (.c (.bool false)), none, []⟩,
  ⟨some 22, .mov (.t 29), none, []⟩] [6, 7, 17, 23, 24, 25, 26, 27, 28, 29]
def R_condorcet_Copeland_1_8 : AC := .ops false [⟨some 30, .mov (.t 5), none, []⟩,
  ⟨some 31, .bin .add (.t 30) (.c (.int .i64 1)), none, []⟩,
  ⟨some 5, .mov (.t 31), none, []⟩] [22, 30, 31]
def R_condorcet_Copeland_1_9 : AC := .ops false [⟨some 32, .bin .add (.t 10) (.c (.int .i64 1)), none, []⟩,
  ⟨some 10, .mov (.t 32), none, []⟩] [22, 32]
def L_condorcet_Copeland_1_1 : AC := (.seq R_condorcet_Copeland_1_2 (.seq (.cond (.t 11) .skip (.exit 0)) (.seq (.block 1 (.seq R_condorcet_Copeland_1_3 (.seq R_condorcet_Copeland_1_4 (.block 2 (.seq R_condorcet_Copeland_1_5 (.cond (.t 17) R_condorcet_Copeland_1_6 (.seq R_condorcet_Copeland_1_7 (.cond (.t 22) R_condorcet_Copeland_1_8 .skip)))))))) R_condorcet_Copeland_1_9)))
def R_condorcet_Copeland_1_10 : AC := .ops false [⟨some 33, .mov (.t 5), none, []⟩,
  ⟨some 5, .mov (.t 33), none, []⟩] [1, 3, 9, 10, 11, 33]
def F_condorcet_Copeland_1 : AFunc := { ntmps := 34, nargs := 3, kills := [[0], [2, 8], [], [11, 12], [13, 14, 15, 16], [18, 19], [6, 7, 17, 20, 21], [6, 7, 17, 23, 24, 25, 26, 27, 28, 29], [22, 30, 31], [22, 32], [1, 3, 9, 10, 11, 33]], results := [.t 5], body := (.seq R_condorcet_Copeland_1_0 (.seq (.seq R_condorcet_Copeland_1_1 (.block 0 (.loop L_condorcet_Copeland_1_1))) (.seq R_condorcet_Copeland_1_10 .ret))) }
abbrev k_condorcet_Copeland_1 : Nat := 104
-- suffrage/pairs.Margin
def R_pairs_Margin_0 : AC := .ops false [⟨some 3, .box (.t 0), none, []⟩,
  ⟨some 6, .mov (.c (.int .i64 0)), none, []⟩] [0, 6]
def R_pairs_Margin_1 : AC := .ops false [⟨some 7, .mov (.t 1), none, []⟩,
  ⟨some 8, .call (.fn 184) [.t 7, .c (.int .i64 10)], none, []⟩,
  ⟨some 9, .un .not (.t 8), none, []⟩,
  ⟨some 10, .mov (.t 9), none, []⟩,
  ⟨some 11, .mov (.t 2), some (10, false), []⟩,
  ⟨some 12, .call (.fn 184) [.t 11, .c (.int .i64 10)], some (10, false), []⟩,
  ⟨some 13, .un .not (.t 12), some (10, false), []⟩,
  ⟨some 14, .pick (.t 10) (.c (.bool true)) (.t 13), none, []⟩,
  ⟨some 15, .mov (.t 14), none, []⟩,
  ⟨some 16, .load 100 false (.t 3), some (15, false), []⟩,
  ⟨some 17, .call (.fn 185) [.t 16, .c (.int .i64 10)], some (15, false), []⟩,
  ⟨some 18, .un .not (.t 17), some (15, false), []⟩,
  ⟨some 19, .pick (.t 15) (.c (.bool true)) (.t 18), none, []⟩] [7, 8, 9, 10, 11, 12, 13, 14, 15, 16, 17, 18]
def R_pairs_Margin_2 : AC := .ops false [⟨some 6, .mov (.c (.int .i64 0)), none, []⟩] [1, 2, 3, 19]
def R_pairs_Margin_3 : AC := .ops true [⟨some 20, .mov (.t 1), none, []⟩,
  ⟨some 21, .mov (.t 2), none, []⟩,
  ⟨some 22, .iaa 10 10 (.t 3) (.t 20), none, [0]⟩,
  ⟨some 23, .iaa 1 10 (.t 22) (.t 21), none, [2, 1]⟩,
  ⟨some 24, .load 1 true (.t 23), none, [3]⟩,
  ⟨some 25, .mov (.t 2), none, []⟩,
  ⟨some 26, .mov (.t 1), none, []⟩,
  ⟨some 27, .iaa 10 10 (.t 3) (.t 25), none, [5]⟩,
  ⟨some 28, .iaa 1 10 (.t 27) (.t 26), none, [7, 6]⟩,
  ⟨some 29, .load 1 true (.t 28), none, [8]⟩,
  ⟨some 30, .bin .sub (.t 24) (.t 29), none, [4, 9]⟩,
  ⟨some 6, .mov (.t 30), none, [10, 0, 1, 2, 3, 4, 5, 6, 7, 8, 9, 10]⟩] [1, 2, 3, 19, 20, 21, 22, 23, 24, 25, 26, 27, 28, 29, 30]
def F_pairs_Margin : AFunc := { ntmps := 31, nargs := 3, kills := [[0, 6], [7, 8, 9, 10, 11, 12, 13, 14, 15, 16, 17, 18], [1, 2, 3, 19], [1, 2, 3, 19, 20, 21, 22, 23, 24, 25, 26, 27, 28, 29, 30]], results := [.t 6], body := (.seq R_pairs_Margin_0 (.seq (.seq R_pairs_Margin_1 (.cond (.t 19) (.seq R_pairs_Margin_2 .ret) .skip)) (.seq R_pairs_Margin_3 .ret))) }
abbrev k_pairs_Margin : Nat := 105
-- suffrage/condorcet.count
def R_condorcet_count_0 : AC := .ops false [⟨some 5, .box (.t 0), none, []⟩,
  ⟨some 8, .box (.t 3), none, []⟩,
  ⟨some 10, .alloc [.lst 0 [] (some 0), .lst 0 [] (some 0), .lst 0 [] (some 0)], none, []⟩,
  ⟨some 11, .mov (.c (.int .i64 0)), none, []⟩] [0, 3, 11]
def R_condorcet_count_1 : AC := .ops false [⟨some 19, .load 3 false (.t 5), none, []⟩,
  ⟨some 20, .mov (.t 1), none, []⟩,
  ⟨some 21, .mov (.t 2), none, []⟩,
  ⟨some 22, .call (.fn 110) [.t 19, .c (.int .u8 1), .t 20, .c (.int .i64 1), .t 21], none, []⟩,
  ⟨some 12, .mov (.t 22), none, []⟩] [1, 19, 20, 21, 22]
def R_condorcet_count_2 : AC := .ops false [⟨some 23, .mov (.t 12), none, []⟩,
  ⟨some 24, .bin .neq (.t 23) (.c (.int .i64 0)), none, []⟩] [23]
def R_condorcet_count_3 : AC := .ops false [⟨some 25, .build [.lst 0 [] (some 0), .lst 0 [] (some 0), .lst 0 [] (some 0)] [], none, []⟩,
  ⟨some 26, .mov (.t 12), none, []⟩,
  ⟨none, .store 3 (.t 10) (.t 25), none, []⟩,
  ⟨some 11, .mov (.t 26), none, []⟩] [2, 4, 5, 8, 12, 24, 25, 26]
def R_condorcet_count_4 : AC := .ops false [⟨some 28, .load 3 false (.t 5), none, []⟩,
  ⟨some 29, .call (.fn 111) [.t 28], none, []⟩,
  ⟨some 27, .mov (.t 29), none, []⟩,
  ⟨some 30, .ext (.t 27) 0, none, []⟩,
  ⟨some 31, .ext (.t 27) 1, none, []⟩,
  ⟨some 13, .alloc [.int .i64 0, .int .i64 0, .int .i64 0, .int .i64 0, .int .i64 0, .int .i64 0, .int .i64 0, .int .i64 0, .int .i64 0, .int .i64 0, .int .i64 0, .int .i64 0, .int .i64 0, .int .i64 0, .int .i64 0, .int .i64 0, .int .i64 0, .int .i64 0, .int .i64 0, .int .i64 0, .int .i64 0, .int .i64 0, .int .i64 0, .int .i64 0, .int .i64 0, .int .i64 0, .int .i64 0, .int .i64 0, .int .i64 0, .int .i64 0, .int .i64 0, .int .i64 0, .int .i64 0, .int .i64 0, .int .i64 0, .int .i64 0, .int .i64 0, .int .i64 0, .int .i64 0, .int .i64 0, .int .i64 0, .int .i64 0, .int .i64 0, .int .i64 0, .int .i64 0, .int .i64 0, .int .i64 0, .int .i64 0, .int .i64 0, .int .i64 0, .int .i64 0, .int .i64 0, .int .i64 0, .int .i64 0, .int .i64 0, .int .i64 0, .int .i64 0, .int .i64 0, .int .i64 0, .int .i64 0, .int .i64 0, .int .i64 0, .int .i64 0, .int .i64 0, .int .i64 0, .int .i64 0, .int .i64 0, .int .i64 0, .int .i64 0, .int .i64 0, .int .i64 0, .int .i64 0, .int .i64 0, .int .i64 0, .int .i64 0, .int .i64 0, .int .i64 0, .int .i64 0, .int .i64 0, .int .i64 0, .int .i64 0, .int .i64 0, .int .i64 0, .int .i64 0, .int .i64 0, .int .i64 0, .int .i64 0, .int .i64 0, .int .i64 0, .int .i64 0, .int .i64 0, .int .i64 0, .int .i64 0, .int .i64 0, .int .i64 0, .int .i64 0, .int .i64 0, .int .i64 0, .int .i64 0, .int .i64 0], none, []⟩,
  ⟨none, .store 100 (.t 13) (.t 30), none, []⟩,
  ⟨some 14, .mov (.t 31), none, []⟩] [12, 14, 24, 27, 28, 29, 30, 31]
def R_condorcet_count_5 : AC := .ops false [⟨some 32, .mov (.t 2), none, []⟩,
  ⟨some 33, .call (.fn 113) [.t 32], none, []⟩,
  ⟨some 15, .mov (.t 33), none, []⟩] [2, 32, 33]
def R_condorcet_count_6 : AC := .ops false [⟨some 34, .mov (.t 15), none, []⟩,
  ⟨some 35, .fa (.t 5) 0, none, []⟩,
  ⟨some 36, .load 1 true (.t 35), none, []⟩,
  ⟨some 37, .call (.fn 116) [.t 36], none, []⟩,
  ⟨some 38, .mkfn 186 [] [.t 8, .t 13], none, []⟩,
  ⟨some 39, .call (.fn 115) [.t 37, .t 38], none, []⟩,
  ⟨some 40, .call (.fn 114) [.t 34, .t 39], none, []⟩,
  ⟨some 16, .mov (.t 40), none, []⟩] [34, 35, 36, 37, 38, 39, 40]
def R_condorcet_count_7 : AC := .ops false [⟨some 41, .call (.fn 31) [.c (.int .i64 0)], none, []⟩,
  ⟨some 42, .mov (.t 16), none, []⟩,
  ⟨some 43, .bslice 1 [.int .i64 0] 1 [(0, .t 42)], none, []⟩,
  ⟨some 44, .build [.lst 0 [] (some 0), .bool false, .lst 0 [] (some 0), .lst 0 [] (some 0), .lst 0 [] (some 0), .lst 0 [] (some 0)] [(1, 3, .t 41), (4, 1, .t 43)], none, []⟩,
  ⟨some 17, .alloc [.lst 0 [] (some 0), .bool false, .lst 0 [] (some 0), .lst 0 [] (some 0), .lst 0 [] (some 0), .lst 0 [] (some 0)], none, []⟩,
  ⟨none, .store 6 (.t 17) (.t 44), none, []⟩] [41, 42, 43, 44]
def R_condorcet_count_8 : AC := .ops false [⟨some 45, .fa (.t 5) 0, none, []⟩,
  ⟨some 46, .load 1 true (.t 45), none, []⟩,
  ⟨some 47, .mov (.c (.int .i64 0)), none, []⟩] [5, 45]
def R_condorcet_count_9 : AC := .ops false [⟨some 48, .bin .lss (.t 47) (.t 46), none, []⟩] []
def R_condorcet_count_10 : AC := .ops false [⟨some 49, .mov (.t 47), none, []⟩,
  ⟨some 18, .mov (.t 49), none, []⟩] [48, 49]
def R_condorcet_count_11 : AC := .ops true [⟨some 50, .fa (.t 17) 0, none, []⟩,
  ⟨some 51, .load 1 true (.t 50), none, [0]⟩,
  ⟨some 52, .mov (.t 4), none, []⟩,
  ⟨some 53, .load 1 true (.t 8), none, []⟩,
  ⟨some 54, .load 100 false (.t 13), none, []⟩,
  ⟨some 55, .mov (.t 18), none, []⟩,
  ⟨some 56, .call (.dyn (.t 53)) [.t 54, .t 55], none, [3, 4, 5]⟩,
  ⟨some 57, .call (.dyn (.t 52)) [.t 56], none, [2, 6, 6]⟩,
  ⟨some 58, .bslice 3 [.bool false, .lst 0 [] (some 0), .lst 0 [] (some 0)] 1 [(0, .t 57)], none, [7]⟩,
  ⟨some 59, .append 3 56 (.t 51) (.t 58), none, [1, 8, 7]⟩,
  ⟨some 60, .fa (.t 17) 0, none, [0, 1, 2, 3, 4, 5, 6, 7, 8, 9]⟩,
  ⟨none, .store 1 (.t 60) (.t 59), none, [10, 9, 9, 0, 1, 2, 3, 4, 5, 6, 7, 8, 9]⟩] [18, 50, 51, 52, 53, 54, 55, 56, 57, 58, 59, 60]
def R_condorcet_count_12 : AC := .ops false [⟨some 61, .bin .add (.t 47) (.c (.int .i64 1)), none, []⟩,
  ⟨some 47, .mov (.t 61), none, []⟩] [61]
def L_condorcet_count_1 : AC := (.seq R_condorcet_count_9 (.seq (.cond (.t 48) .skip (.exit 0)) (.seq (.block 1 (.seq R_condorcet_count_10 R_condorcet_count_11)) R_condorcet_count_12)))
def R_condorcet_count_13 : AC := .ops true [⟨some 62, .mov (.t 15), none, []⟩,
  ⟨some 63, .mov (.t 15), none, []⟩,
  ⟨some 64, .mov (.t 16), none, []⟩,
  ⟨some 65, .bslice 1 [.int .i64 0] 1 [(0, .t 64)], none, [2]⟩,
  ⟨some 66, .load 6 false (.t 17), none, []⟩,
  ⟨some 67, .bslice 6 [.lst 0 [] (some 0), .bool false, .lst 0 [] (some 0), .lst 0 [] (some 0), .lst 0 [] (some 0), .lst 0 [] (some 0)] 1 [(0, .t 66)], none, [4]⟩,
  ⟨some 68, .nilchk (.t 62), none, [0, 0, 2, 3]⟩,
  ⟨some 69, .fa (.t 68) 0, none, [6, 0, 2, 3]⟩,
  ⟨some 70, .fa (.t 69) 0, none, [7, 0, 2, 3]⟩,
  ⟨none, .store 1 (.t 70) (.t 65), none, [8, 3, 0, 2, 3]⟩,
  ⟨some 71, .nilchk (.t 63), none, [1, 0, 1, 2, 3, 4, 5, 6, 7, 8, 9]⟩,
  ⟨some 72, .fa (.t 71) 0, none, [10, 0, 1, 2, 3, 4, 5, 6, 7, 8, 9]⟩,
  ⟨some 73, .fa (.t 72) 1, none, [11, 0, 1, 2, 3, 4, 5, 6, 7, 8, 9]⟩,
  ⟨none, .store 1 (.t 73) (.t 67), none, [12, 5, 9, 0, 1, 2, 3, 4, 5, 6, 7, 8, 9]⟩] [4, 8, 13, 16, 17, 46, 47, 48, 62, 63, 64, 65, 66, 67, 68, 69, 70, 71, 72, 73]
def R_condorcet_count_14 : AC := .ops false [⟨some 74, .mov (.t 15), none, []⟩,
  ⟨some 75, .nilchk (.t 74), none, []⟩,
  ⟨some 76, .fa (.t 75) 0, none, []⟩,
  ⟨some 77, .load 3 false (.t 76), none, []⟩,
  ⟨none, .store 3 (.t 10) (.t 77), none, []⟩,
  ⟨some 11, .mov (.c (.int .i64 0)), none, []⟩] [15, 74, 75, 76, 77]
def F_condorcet_count : AFunc := { ntmps := 78, nargs := 5, kills := [[0, 3, 11], [1, 19, 20, 21, 22], [23], [2, 4, 5, 8, 12, 24, 25, 26], [12, 14, 24, 27, 28, 29, 30, 31], [2, 32, 33], [34, 35, 36, 37, 38, 39, 40], [41, 42, 43, 44], [5, 45], [], [48, 49], [18, 50, 51, 52, 53, 54, 55, 56, 57, 58, 59, 60], [61], [4, 8, 13, 16, 17, 46, 47, 48, 62, 63, 64, 65, 66, 67, 68, 69, 70, 71, 72, 73], [15, 74, 75, 76, 77]], results := [.cell 10 3 false, .t 11], body := (.seq R_condorcet_count_0 (.seq (.seq R_condorcet_count_1 (.seq R_condorcet_count_2 (.cond (.t 24) (.seq R_condorcet_count_3 .ret) .skip))) (.seq R_condorcet_count_4 (.seq R_condorcet_count_5 (.seq R_condorcet_count_6 (.seq R_condorcet_count_7 (.seq (.seq R_condorcet_count_8 (.block 0 (.loop L_condorcet_count_1))) (.seq R_condorcet_count_13 (.seq R_condorcet_count_14 .ret))))))))) }
abbrev k_condorcet_count : Nat := 106
-- suffrage/condorcet.Copeland$2
def R_condorcet_Copeland_2_0 : AC := .ops false [⟨some 2, .alloc [.bool false, .lst 0 [] (some 0), .lst 0 [] (some 0)], none, []⟩] []
def R_condorcet_Copeland_2_1 : AC := .ops false [⟨some 6, .mov (.t 0), none, []⟩,
  ⟨some 7, .call (.fn 30) [.t 6, .c (.int .i64 2)], none, []⟩,
  ⟨some 5, .mov (.t 7), none, []⟩,
  ⟨some 8, .ext (.t 5) 0, none, []⟩,
  ⟨some 9, .ext (.t 5) 1, none, []⟩,
  ⟨some 3, .alloc [.bool false, .lst 0 [] (some 0), .lst 0 [] (some 0)], none, []⟩,
  ⟨none, .store 3 (.t 3) (.t 8), none, []⟩,
  ⟨some 4, .mov (.t 9), none, []⟩] [0, 4, 5, 6, 7, 8, 9]
def R_condorcet_Copeland_2_2 : AC := .ops false [⟨some 10, .load 3 false (.t 3), none, []⟩,
  ⟨none, .store 3 (.t 2) (.t 10), none, []⟩] [3, 10]
def F_condorcet_Copeland_2 : AFunc := { ntmps := 11, nargs := 1, kills := [[], [0, 4, 5, 6, 7, 8, 9], [3, 10]], results := [.cell 2 3 false], body := (.seq R_condorcet_Copeland_2_0 (.seq R_condorcet_Copeland_2_1 (.seq R_condorcet_Copeland_2_2 .ret))) }
abbrev k_condorcet_Copeland_2 : Nat := 107
-- suffrage/condorcet.Minimax$1
def R_condorcet_Minimax_1_0 : AC := .ops false [⟨some 3, .box (.t 0), none, []⟩,
  ⟨some 5, .mov (.c (.int .i64 0)), none, []⟩] [0]
def R_condorcet_Minimax_1_1 : AC := .ops false [⟨some 7, .fa (.t 2) 0, none, []⟩,
  ⟨some 8, .load 1 true (.t 7), none, []⟩,
  ⟨some 9, .mov (.c (.int .i64 0)), none, []⟩] [2, 7]
def R_condorcet_Minimax_1_2 : AC := .ops false [⟨some 10, .bin .lss (.t 9) (.t 8), none, []⟩] []
def R_condorcet_Minimax_1_3 : AC := .ops false [⟨some 11, .mov (.t 9), none, []⟩,
  ⟨some 6, .mov (.t 11), none, []⟩] [10, 11]
def R_condorcet_Minimax_1_4 : AC := .ops false [⟨some 12, .mov (.t 5), none, []⟩,
  ⟨some 13, .load 100 false (.t 3), none, []⟩,
  ⟨some 14, .mov (.t 1), none, []⟩,
  ⟨some 15, .mov (.t 6), none, []⟩,
  ⟨some 16, .call (.fn 105) [.t 13, .t 14, .t 15], none, []⟩,
  ⟨some 17, .min [.t 12, .t 16], none, []⟩,
  ⟨some 5, .mov (.t 17), none, []⟩] [6, 12, 13, 14, 15, 16, 17]
def R_condorcet_Minimax_1_5 : AC := .ops false [⟨some 18, .bin .add (.t 9) (.c (.int .i64 1)), none, []⟩,
  ⟨some 9, .mov (.t 18), none, []⟩] [18]
def L_condorcet_Minimax_1_1 : AC := (.seq R_condorcet_Minimax_1_2 (.seq (.cond (.t 10) .skip (.exit 0)) (.seq (.block 1 (.seq R_condorcet_Minimax_1_3 R_condorcet_Minimax_1_4)) R_condorcet_Minimax_1_5)))
def R_condorcet_Minimax_1_6 : AC := .ops false [⟨some 19, .mov (.t 5), none, []⟩,
  ⟨some 5, .mov (.t 19), none, []⟩] [1, 3, 8, 9, 10, 19]
def F_condorcet_Minimax_1 : AFunc := { ntmps := 20, nargs := 3, kills := [[0], [2, 7], [], [10, 11], [6, 12, 13, 14, 15, 16, 17], [18], [1, 3, 8, 9, 10, 19]], results := [.t 5], body := (.seq R_condorcet_Minimax_1_0 (.seq (.seq R_condorcet_Minimax_1_1 (.block 0 (.loop L_condorcet_Minimax_1_1))) (.seq R_condorcet_Minimax_1_6 .ret))) }
abbrev k_condorcet_Minimax_1 : Nat := 108
-- suffrage/condorcet.Minimax$2
def R_condorcet_Minimax_2_0 : AC := .ops false [⟨some 2, .alloc [.bool false, .lst 0 [] (some 0), .lst 0 [] (some 0)], none, []⟩] []
def R_condorcet_Minimax_2_1 : AC := .ops false [⟨some 3, .mov (.t 0), none, []⟩,
  ⟨some 4, .un .neg (.t 3), none, []⟩,
  ⟨some 5, .call (.fn 31) [.t 4], none, []⟩,
  ⟨none, .store 3 (.t 2) (.t 5), none, []⟩] [0, 3, 4, 5]
def F_condorcet_Minimax_2 : AFunc := { ntmps := 6, nargs := 1, kills := [[], [0, 3, 4, 5]], results := [.cell 2 3 false], body := (.seq R_condorcet_Minimax_2_0 (.seq R_condorcet_Minimax_2_1 .ret)) }
abbrev k_condorcet_Minimax_2 : Nat := 109
-- suffrage/choose.Check
def R_choose_Check_0 : AC := .ops false [⟨some 5, .box (.t 0), none, []⟩,
  ⟨some 10, .mov (.c (.int .i64 0)), none, []⟩] [0, 10]
def R_choose_Check_1 : AC := .ops false [⟨some 12, .load 3 false (.t 5), none, []⟩,
  ⟨some 13, .call (.fn 19) [.t 12], none, []⟩,
  ⟨some 14, .bin .neq (.t 13) (.c (.int .i64 0)), none, []⟩,
  ⟨some 15, .mov (.t 14), none, []⟩,
  ⟨some 16, .fa (.t 5) 1, some (15, false), []⟩,
  ⟨some 17, .load 1 true (.t 16), some (15, false), []⟩,
  ⟨some 18, .mov (.t 1), some (15, false), []⟩,
  ⟨some 19, .bin .neq (.t 17) (.t 18), some (15, false), []⟩,
  ⟨some 20, .pick (.t 15) (.c (.bool true)) (.t 19), none, []⟩,
  ⟨some 11, .mov (.t 20), none, []⟩] [1, 12, 13, 14, 15, 16, 17, 18, 19, 20]
def R_choose_Check_2 : AC := .ops false [⟨some 10, .mov (.c (.int .i64 8)), none, []⟩] [2, 3, 4, 5, 11]
def R_choose_Check_3 : AC := .ops false [⟨some 22, .mov (.t 2), none, []⟩,
  ⟨some 23, .bin .lss (.t 22) (.c (.int .i64 1)), none, []⟩,
  ⟨some 24, .mov (.t 23), none, []⟩,
  ⟨some 25, .mov (.t 2), some (24, false), []⟩,
  ⟨some 26, .mov (.t 3), some (24, false), []⟩,
  ⟨some 27, .min [.t 26, .c (.int .i64 10)], some (24, false), []⟩,
  ⟨some 28, .bin .gtr (.t 25) (.t 27), some (24, false), []⟩,
  ⟨some 29, .pick (.t 24) (.c (.bool true)) (.t 28), none, []⟩,
  ⟨some 30, .mov (.t 29), none, []⟩,
  ⟨some 31, .mov (.t 4), some (30, false), []⟩,
  ⟨some 32, .fa (.t 5) 0, some (30, false), []⟩,
  ⟨some 33, .load 1 true (.t 32), some (30, false), []⟩,
  ⟨some 34, .call (.fn 187) [.t 31, .t 33], some (30, false), []⟩,
  ⟨some 35, .un .not (.t 34), some (30, false), []⟩,
  ⟨some 36, .pick (.t 30) (.c (.bool true)) (.t 35), none, []⟩,
  ⟨some 21, .mov (.t 36), none, []⟩] [2, 3, 4, 5, 11, 22, 23, 24, 25, 26, 27, 28, 29, 30, 31, 32, 33, 34, 35, 36]
def R_choose_Check_4 : AC := .ops false [⟨some 10, .mov (.c (.int .i64 2)), none, []⟩] [21]
def R_choose_Check_5 : AC := .ops false [⟨some 10, .mov (.c (.int .i64 0)), none, []⟩] [21]
def F_choose_Check : AFunc := { ntmps := 37, nargs := 5, kills := [[0, 10], [1, 12, 13, 14, 15, 16, 17, 18, 19, 20], [2, 3, 4, 5, 11], [2, 3, 4, 5, 11, 22, 23, 24, 25, 26, 27, 28, 29, 30, 31, 32, 33, 34, 35, 36], [21], [21]], results := [.t 10], body := (.seq R_choose_Check_0 (.seq (.block 0 (.seq R_choose_Check_1 (.cond (.t 11) (.seq R_choose_Check_2 .ret) (.seq R_choose_Check_3 (.cond (.t 21) (.seq R_choose_Check_4 .ret) .skip))))) (.seq R_choose_Check_5 .ret))) }
abbrev k_choose_Check : Nat := 110
-- suffrage/pairs.Of
def R_pairs_Of_0 : AC := .ops false [⟨some 1, .box (.t 0), none, []⟩,
  ⟨some 2, .alloc [.int .i64 0, .int .i64 0, .int .i64 0, .int .i64 0, .int .i64 0, .int .i64 0, .int .i64 0, .int .i64 0, .int .i64 0, .int .i64 0, .int .i64 0, .int .i64 0, .int .i64 0, .int .i64 0, .int .i64 0, .int .i64 0, .int .i64 0, .int .i64 0, .int .i64 0, .int .i64 0, .int .i64 0, .int .i64 0, .int .i64 0, .int .i64 0, .int .i64 0, .int .i64 0, .int .i64 0, .int .i64 0, .int .i64 0, .int .i64 0, .int .i64 0, .int .i64 0, .int .i64 0, .int .i64 0, .int .i64 0, .int .i64 0, .int .i64 0, .int .i64 0, .int .i64 0, .int .i64 0, .int .i64 0, .int .i64 0, .int .i64 0, .int .i64 0, .int .i64 0, .int .i64 0, .int .i64 0, .int .i64 0, .int .i64 0, .int .i64 0, .int .i64 0, .int .i64 0, .int .i64 0, .int .i64 0, .int .i64 0, .int .i64 0, .int .i64 0, .int .i64 0, .int .i64 0, .int .i64 0, .int .i64 0, .int .i64 0, .int .i64 0, .int .i64 0, .int .i64 0, .int .i64 0, .int .i64 0, .int .i64 0, .int .i64 0, .int .i64 0, .int .i64 0, .int .i64 0, .int .i64 0, .int .i64 0, .int .i64 0, .int .i64 0, .int .i64 0, .int .i64 0, .int .i64 0, .int .i64 0, .int .i64 0, .int .i64 0, .int .i64 0, .int .i64 0, .int .i64 0, .int .i64 0, .int .i64 0, .int .i64 0, .int .i64 0, .int .i64 0, .int .i64 0, .int .i64 0, .int .i64 0, .int .i64 0, .int .i64 0, .int .i64 0, .int .i64 0, .int .i64 0, .int .i64 0, .int .i64 0], none, []⟩,
  ⟨some 3, .mov (.c (.int .i64 0)), none, []⟩] [0, 3]
def R_pairs_Of_1 : AC := .ops false [⟨some 9, .load 3 false (.t 1), none, []⟩,
  ⟨some 10, .call (.fn 19) [.t 9], none, []⟩,
  ⟨some 3, .mov (.t 10), none, []⟩] [9, 10]
def R_pairs_Of_2 : AC := .ops false [⟨some 11, .mov (.t 3), none, []⟩,
  ⟨some 12, .bin .neq (.t 11) (.c (.int .i64 0)), none, []⟩] [11]
def R_pairs_Of_3 : AC := .ops false [⟨some 13, .load 100 false (.t 2), none, []⟩,
  ⟨some 14, .mov (.t 3), none, []⟩,
  ⟨none, .store 100 (.t 2) (.t 13), none, []⟩,
  ⟨some 3, .mov (.t 14), none, []⟩] [1, 12, 13, 14]
def R_pairs_Of_4 : AC := .ops false [⟨some 15, .fa (.t 1) 2, none, []⟩,
  ⟨some 16, .load 1 true (.t 15), none, []⟩,
  ⟨some 17, .len (.t 16), none, []⟩,
  ⟨some 18, .mov (.c (.int .i64 0)), none, []⟩] [3, 12, 15]
def R_pairs_Of_5 : AC := .ops false [⟨some 19, .bin .lss (.t 18) (.t 17), none, []⟩] []
def R_pairs_Of_6 : AC := .ops false [⟨some 20, .ia 2 (.t 16) (.t 18), none, []⟩,
  ⟨some 21, .load 2 false (.t 20), none, []⟩,
  ⟨some 5, .alloc [.lst 0 [] (some 0), .int .i64 0], none, []⟩,
  ⟨none, .store 2 (.t 5) (.t 21), none, []⟩] [19, 20, 21]
def R_pairs_Of_7 : AC := .ops false [⟨some 22, .fa (.t 1) 1, none, []⟩,
  ⟨some 23, .load 1 true (.t 22), none, []⟩,
  ⟨some 24, .fa (.t 5) 0, none, []⟩,
  ⟨some 25, .load 1 true (.t 24), none, []⟩,
  ⟨some 26, .build [.int .u8 0, .lst 0 [] (some 0)] [(0, 1, .t 23), (1, 1, .t 25)], none, []⟩,
  ⟨some 6, .alloc [.int .u8 0, .lst 0 [] (some 0)], none, []⟩,
  ⟨none, .store 2 (.t 6) (.t 26), none, []⟩] [22, 23, 24, 25, 26]
def R_pairs_Of_8 : AC := .ops false [⟨some 27, .fa (.t 1) 0, none, []⟩,
  ⟨some 28, .load 1 true (.t 27), none, []⟩,
  ⟨some 29, .mov (.c (.int .i64 0)), none, []⟩] [27]
def R_pairs_Of_9 : AC := .ops false [⟨some 30, .bin .lss (.t 29) (.t 28), none, []⟩] []
def R_pairs_Of_10 : AC := .ops false [⟨some 31, .mov (.t 29), none, []⟩,
  ⟨some 7, .mov (.t 31), none, []⟩] [30, 31]
def R_pairs_Of_11 : AC := .ops false [⟨some 32, .fa (.t 1) 0, none, []⟩,
  ⟨some 33, .load 1 true (.t 32), none, []⟩,
  ⟨some 34, .mov (.c (.int .i64 0)), none, []⟩] [32]
def R_pairs_Of_12 : AC := .ops false [⟨some 35, .bin .lss (.t 34) (.t 33), none, []⟩] []
def R_pairs_Of_13 : AC := .ops false [⟨some 36, .mov (.t 34), none, []⟩,
  ⟨some 8, .mov (.t 36), none, []⟩] [35, 36]
def R_pairs_Of_14 : AC := .ops false [⟨some 37, .load 2 false (.t 6), none, []⟩,
  ⟨some 38, .mov (.t 7), none, []⟩,
  ⟨some 39, .mov (.t 8), none, []⟩,
  ⟨some 40, .call (.fn 188) [.t 37, .t 38, .t 39], none, []⟩] [37, 38, 39]
def R_pairs_Of_15 : AC := .ops true [⟨some 41, .mov (.t 7), none, []⟩,
  ⟨some 42, .mov (.t 8), none, []⟩,
  ⟨some 43, .iaa 10 10 (.t 2) (.t 41), none, [0]⟩,
  ⟨some 44, .iaa 1 10 (.t 43) (.t 42), none, [2, 1]⟩,
  ⟨some 45, .load 1 true (.t 44), none, [3]⟩,
  ⟨some 46, .fa (.t 5) 1, none, []⟩,
  ⟨some 47, .load 1 true (.t 46), none, [5]⟩,
  ⟨some 48, .bin .add (.t 45) (.t 47), none, [4, 6]⟩,
  ⟨some 49, .iaa 10 10 (.t 2) (.t 41), none, [0]⟩,
  ⟨some 50, .iaa 1 10 (.t 49) (.t 42), none, [8, 1, 0, 1, 2, 3, 4, 5, 6, 7]⟩,
  ⟨none, .store 1 (.t 50) (.t 48), none, [9, 7, 0, 1, 2, 3, 4, 5, 6, 7]⟩] [8, 40, 41, 42, 43, 44, 45, 46, 47, 48, 49, 50]
def R_pairs_Of_16 : AC := .ops false [⟨some 51, .bin .add (.t 34) (.c (.int .i64 1)), none, []⟩,
  ⟨some 34, .mov (.t 51), none, []⟩] [8, 40, 51]
def L_pairs_Of_1 : AC := (.seq R_pairs_Of_12 (.seq (.cond (.t 35) .skip (.exit 4)) (.seq (.block 5 (.seq R_pairs_Of_13 (.seq R_pairs_Of_14 (.cond (.t 40) R_pairs_Of_15 .skip)))) R_pairs_Of_16)))
def R_pairs_Of_17 : AC := .ops false [⟨some 52, .bin .add (.t 29) (.c (.int .i64 1)), none, []⟩,
  ⟨some 29, .mov (.t 52), none, []⟩] [7, 33, 34, 35, 52]
def L_pairs_Of_2 : AC := (.seq R_pairs_Of_9 (.seq (.cond (.t 30) .skip (.exit 2)) (.seq (.block 3 (.seq R_pairs_Of_10 (.seq R_pairs_Of_11 (.block 4 (.loop L_pairs_Of_1))))) R_pairs_Of_17)))
def R_pairs_Of_18 : AC := .ops false [⟨some 53, .bin .add (.t 18) (.c (.int .i64 1)), none, []⟩,
  ⟨some 18, .mov (.t 53), none, []⟩] [5, 6, 28, 29, 30, 53]
def L_pairs_Of_3 : AC := (.seq R_pairs_Of_5 (.seq (.cond (.t 19) .skip (.exit 0)) (.seq (.block 1 (.seq R_pairs_Of_6 (.seq R_pairs_Of_7 (.seq R_pairs_Of_8 (.block 2 (.loop L_pairs_Of_2)))))) R_pairs_Of_18)))
def R_pairs_Of_19 : AC := .ops false [⟨some 54, .load 100 false (.t 2), none, []⟩,
  ⟨none, .store 100 (.t 2) (.t 54), none, []⟩,
  ⟨some 3, .mov (.c (.int .i64 0)), none, []⟩] [1, 16, 17, 18, 19, 54]
def F_pairs_Of : AFunc := { ntmps := 55, nargs := 1, kills := [[0, 3], [9, 10], [11], [1, 12, 13, 14], [3, 12, 15], [], [19, 20, 21], [22, 23, 24, 25, 26], [27], [], [30, 31], [32], [], [35, 36], [37, 38, 39], [8, 40, 41, 42, 43, 44, 45, 46, 47, 48, 49, 50], [8, 40, 51], [7, 33, 34, 35, 52], [5, 6, 28, 29, 30, 53], [1, 16, 17, 18, 19, 54]], results := [.cell 2 100 false, .t 3], body := (.seq R_pairs_Of_0 (.seq (.seq R_pairs_Of_1 (.seq R_pairs_Of_2 (.cond (.t 12) (.seq R_pairs_Of_3 .ret) .skip))) (.seq (.seq R_pairs_Of_4 (.block 0 (.loop L_pairs_Of_3))) (.seq R_pairs_Of_19 .ret)))) }
abbrev k_pairs_Of : Nat := 111
-- suffrage/paths.Strengths
def R_paths_Strengths_0 : AC := .ops false [⟨some 2, .box (.t 0), none, []⟩,
  ⟨some 4, .alloc [.int .i64 0, .int .i64 0, .int .i64 0, .int .i64 0, .int .i64 0, .int .i64 0, .int .i64 0, .int .i64 0, .int .i64 0, .int .i64 0, .int .i64 0, .int .i64 0, .int .i64 0, .int .i64 0, .int .i64 0, .int .i64 0, .int .i64 0, .int .i64 0, .int .i64 0, .int .i64 0, .int .i64 0, .int .i64 0, .int .i64 0, .int .i64 0, .int .i64 0, .int .i64 0, .int .i64 0, .int .i64 0, .int .i64 0, .int .i64 0, .int .i64 0, .int .i64 0, .int .i64 0, .int .i64 0, .int .i64 0, .int .i64 0, .int .i64 0, .int .i64 0, .int .i64 0, .int .i64 0, .int .i64 0, .int .i64 0, .int .i64 0, .int .i64 0, .int .i64 0, .int .i64 0, .int .i64 0, .int .i64 0, .int .i64 0, .int .i64 0, .int .i64 0, .int .i64 0, .int .i64 0, .int .i64 0, .int .i64 0, .int .i64 0, .int .i64 0, .int .i64 0, .int .i64 0, .int .i64 0, .int .i64 0, .int .i64 0, .int .i64 0, .int .i64 0, .int .i64 0, .int .i64 0, .int .i64 0, .int .i64 0, .int .i64 0, .int .i64 0, .int .i64 0, .int .i64 0, .int .i64 0, .int .i64 0, .int .i64 0, .int .i64 0, .int .i64 0, .int .i64 0, .int .i64 0, .int .i64 0, .int .i64 0, .int .i64 0, .int .i64 0, .int .i64 0, .int .i64 0, .int .i64 0, .int .i64 0, .int .i64 0, .int .i64 0, .int .i64 0, .int .i64 0, .int .i64 0, .int .i64 0, .int .i64 0, .int .i64 0, .int .i64 0, .int .i64 0, .int .i64 0, .int .i64 0, .int .i64 0], none, []⟩,
  ⟨some 5, .mov (.c (.int .i64 0)), none, []⟩] [0, 5]
def R_paths_Strengths_1 : AC := .ops false [⟨some 9, .mov (.t 1), none, []⟩,
  ⟨some 10, .bin .lss (.t 9) (.c (.int .i64 1)), none, []⟩,
  ⟨some 11, .mov (.t 10), none, []⟩,
  ⟨some 12, .mov (.t 1), some (11, false), []⟩,
  ⟨some 13, .bin .gtr (.t 12) (.c (.int .i64 10)), some (11, false), []⟩,
  ⟨some 14, .pick (.t 11) (.c (.bool true)) (.t 13), none, []⟩,
  ⟨some 8, .mov (.t 14), none, []⟩] [9, 10, 11, 12, 13, 14]
def R_paths_Strengths_2 : AC := .ops false [⟨some 15, .build [.int .i64 0, .int .i64 0, .int .i64 0, .int .i64 0, .int .i64 0, .int .i64 0, .int .i64 0, .int .i64 0, .int .i64 0, .int .i64 0, .int .i64 0, .int .i64 0, .int .i64 0, .int .i64 0, .int .i64 0, .int .i64 0, .int .i64 0, .int .i64 0, .int .i64 0, .int .i64 0, .int .i64 0, .int .i64 0, .int .i64 0, .int .i64 0, .int .i64 0, .int .i64 0, .int .i64 0, .int .i64 0, .int .i64 0, .int .i64 0, .int .i64 0, .int .i64 0, .int .i64 0, .int .i64 0, .int .i64 0, .int .i64 0, .int .i64 0, .int .i64 0, .int .i64 0, .int .i64 0, .int .i64 0, .int .i64 0, .int .i64 0, .int .i64 0, .int .i64 0, .int .i64 0, .int .i64 0, .int .i64 0, .int .i64 0, .int .i64 0, .int .i64 0, .int .i64 0, .int .i64 0, .int .i64 0, .int .i64 0, .int .i64 0, .int .i64 0, .int .i64 0, .int .i64 0, .int .i64 0, .int .i64 0, .int .i64 0, .int .i64 0, .int .i64 0, .int .i64 0, .int .i64 0, .int .i64 0, .int .i64 0, .int .i64 0, .int .i64 0, .int .i64 0, .int .i64 0, .int .i64 0, .int .i64 0, .int .i64 0, .int .i64 0, .int .i64 0, .int .i64 0, .int .i64 0, .int .i64 0, .int .i64 0, .int .i64 0, .int .i64 0, .int .i64 0, .int .i64 0, .int .i64 0, .int .i64 0, .int .i64 0, .int .i64 0, .int .i64 0, .int .i64 0, .int .i64 0, .int .i64 0, .int .i64 0, .int .i64 0, .int .i64 0, .int .i64 0, .int .i64 0, .int .i64 0, .int .i64 0] [], none, []⟩,
  ⟨none, .store 100 (.t 4) (.t 15), none, []⟩,
  ⟨some 5, .mov (.c (.int .i64 2)), none, []⟩] [1, 2, 8, 15]
def R_paths_Strengths_3 : AC := .ops false [⟨some 17, .load 100 false (.t 2), none, []⟩,
  ⟨some 18, .mov (.t 1), none, []⟩,
  ⟨some 19, .call (.fn 185) [.t 17, .t 18], none, []⟩,
  ⟨some 20, .un .not (.t 19), none, []⟩,
  ⟨some 16, .mov (.t 20), none, []⟩] [1, 8, 17, 18, 19, 20]
def R_paths_Strengths_4 : AC := .ops false [⟨some 21, .build [.int .i64 0, .int .i64 0, .int .i64 0, .int .i64 0, .int .i64 0, .int .i64 0, .int .i64 0, .int .i64 0, .int .i64 0, .int .i64 0, .int .i64 0, .int .i64 0, .int .i64 0, .int .i64 0, .int .i64 0, .int .i64 0, .int .i64 0, .int .i64 0, .int .i64 0, .int .i64 0, .int .i64 0, .int .i64 0, .int .i64 0, .int .i64 0, .int .i64 0, .int .i64 0, .int .i64 0, .int .i64 0, .int .i64 0, .int .i64 0, .int .i64 0, .int .i64 0, .int .i64 0, .int .i64 0, .int .i64 0, .int .i64 0, .int .i64 0, .int .i64 0, .int .i64 0, .int .i64 0, .int .i64 0, .int .i64 0, .int .i64 0, .int .i64 0, .int .i64 0, .int .i64 0, .int .i64 0, .int .i64 0, .int .i64 0, .int .i64 0, .int .i64 0, .int .i64 0, .int .i64 0, .int .i64 0, .int .i64 0, .int .i64 0, .int .i64 0, .int .i64 0, .int .i64 0, .int .i64 0, .int .i64 0, .int .i64 0, .int .i64 0, .int .i64 0, .int .i64 0, .int .i64 0, .int .i64 0, .int .i64 0, .int .i64 0, .int .i64 0, .int .i64 0, .int .i64 0, .int .i64 0, .int .i64 0, .int .i64 0, .int .i64 0, .int .i64 0, .int .i64 0, .int .i64 0, .int .i64 0, .int .i64 0, .int .i64 0, .int .i64 0, .int .i64 0, .int .i64 0, .int .i64 0, .int .i64 0, .int .i64 0, .int .i64 0, .int .i64 0, .int .i64 0, .int .i64 0, .int .i64 0, .int .i64 0, .int .i64 0, .int .i64 0, .int .i64 0, .int .i64 0, .int .i64 0, .int .i64 0] [], none, []⟩,
  ⟨none, .store 100 (.t 4) (.t 21), none, []⟩,
  ⟨some 5, .mov (.c (.int .i64 8)), none, []⟩] [2, 16, 21]
def R_paths_Strengths_5 : AC := .ops false [⟨some 22, .load 100 false (.t 2), none, []⟩,
  ⟨some 23, .call (.fn 189) [.t 22], none, []⟩,
  ⟨some 24, .build [.int .i64 0, .int .i64 0, .int .i64 0, .int .i64 0, .int .i64 0, .int .i64 0, .int .i64 0, .int .i64 0, .int .i64 0, .int .i64 0, .int .i64 0, .int .i64 0, .int .i64 0, .int .i64 0, .int .i64 0, .int .i64 0, .int .i64 0, .int .i64 0, .int .i64 0, .int .i64 0, .int .i64 0, .int .i64 0, .int .i64 0, .int .i64 0, .int .i64 0, .int .i64 0, .int .i64 0, .int .i64 0, .int .i64 0, .int .i64 0, .int .i64 0, .int .i64 0, .int .i64 0, .int .i64 0, .int .i64 0, .int .i64 0, .int .i64 0, .int .i64 0, .int .i64 0, .int .i64 0, .int .i64 0, .int .i64 0, .int .i64 0, .int .i64 0, .int .i64 0, .int .i64 0, .int .i64 0, .int .i64 0, .int .i64 0, .int .i64 0, .int .i64 0, .int .i64 0, .int .i64 0, .int .i64 0, .int .i64 0, .int .i64 0, .int .i64 0, .int .i64 0, .int .i64 0, .int .i64 0, .int .i64 0, .int .i64 0, .int .i64 0, .int .i64 0, .int .i64 0, .int .i64 0, .int .i64 0, .int .i64 0, .int .i64 0, .int .i64 0, .int .i64 0, .int .i64 0, .int .i64 0, .int .i64 0, .int .i64 0, .int .i64 0, .int .i64 0, .int .i64 0, .int .i64 0, .int .i64 0, .int .i64 0, .int .i64 0, .int .i64 0, .int .i64 0, .int .i64 0, .int .i64 0, .int .i64 0, .int .i64 0, .int .i64 0, .int .i64 0, .int .i64 0, .int .i64 0, .int .i64 0, .int .i64 0, .int .i64 0, .int .i64 0, .int .i64 0, .int .i64 0, .int .i64 0, .int .i64 0] [], none, []⟩,
  ⟨some 6, .alloc [.int .i64 0, .int .i64 0, .int .i64 0, .int .i64 0, .int .i64 0, .int .i64 0, .int .i64 0, .int .i64 0, .int .i64 0, .int .i64 0, .int .i64 0, .int .i64 0, .int .i64 0, .int .i64 0, .int .i64 0, .int .i64 0, .int .i64 0, .int .i64 0, .int .i64 0, .int .i64 0, .int .i64 0, .int .i64 0, .int .i64 0, .int .i64 0, .int .i64 0, .int .i64 0, .int .i64 0, .int .i64 0, .int .i64 0, .int .i64 0, .int .i64 0, .int .i64 0, .int .i64 0, .int .i64 0, .int .i64 0, .int .i64 0, .int .i64 0, .int .i64 0, .int .i64 0, .int .i64 0, .int .i64 0, .int .i64 0, .int .i64 0, .int .i64 0, .int .i64 0, .int .i64 0, .int .i64 0, .int .i64 0, .int .i64 0, .int .i64 0, .int .i64 0, .int .i64 0, .int .i64 0, .int .i64 0, .int .i64 0, .int .i64 0, .int .i64 0, .int .i64 0, .int .i64 0, .int .i64 0, .int .i64 0, .int .i64 0, .int .i64 0, .int .i64 0, .int .i64 0, .int .i64 0, .int .i64 0, .int .i64 0, .int .i64 0, .int .i64 0, .int .i64 0, .int .i64 0, .int .i64 0, .int .i64 0, .int .i64 0, .int .i64 0, .int .i64 0, .int .i64 0, .int .i64 0, .int .i64 0, .int .i64 0, .int .i64 0, .int .i64 0, .int .i64 0, .int .i64 0, .int .i64 0, .int .i64 0, .int .i64 0, .int .i64 0, .int .i64 0, .int .i64 0, .int .i64 0, .int .i64 0, .int .i64 0, .int .i64 0, .int .i64 0, .int .i64 0, .int .i64 0, .int .i64 0, .int .i64 0], none, []⟩,
  ⟨some 7, .alloc [.int .i64 0, .int .i64 0, .int .i64 0, .int .i64 0, .int .i64 0, .int .i64 0, .int .i64 0, .int .i64 0, .int .i64 0, .int .i64 0, .int .i64 0, .int .i64 0, .int .i64 0, .int .i64 0, .int .i64 0, .int .i64 0, .int .i64 0, .int .i64 0, .int .i64 0, .int .i64 0, .int .i64 0, .int .i64 0, .int .i64 0, .int .i64 0, .int .i64 0, .int .i64 0, .int .i64 0, .int .i64 0, .int .i64 0, .int .i64 0, .int .i64 0, .int .i64 0, .int .i64 0, .int .i64 0, .int .i64 0, .int .i64 0, .int .i64 0, .int .i64 0, .int .i64 0, .int .i64 0, .int .i64 0, .int .i64 0, .int .i64 0, .int .i64 0, .int .i64 0, .int .i64 0, .int .i64 0, .int .i64 0, .int .i64 0, .int .i64 0, .int .i64 0, .int .i64 0, .int .i64 0, .int .i64 0, .int .i64 0, .int .i64 0, .int .i64 0, .int .i64 0, .int .i64 0, .int .i64 0, .int .i64 0, .int .i64 0, .int .i64 0, .int .i64 0, .int .i64 0, .int .i64 0, .int .i64 0, .int .i64 0, .int .i64 0, .int .i64 0, .int .i64 0, .int .i64 0, .int .i64 0, .int .i64 0, .int .i64 0, .int .i64 0, .int .i64 0, .int .i64 0, .int .i64 0, .int .i64 0, .int .i64 0, .int .i64 0, .int .i64 0, .int .i64 0, .int .i64 0, .int .i64 0, .int .i64 0, .int .i64 0, .int .i64 0, .int .i64 0, .int .i64 0, .int .i64 0, .int .i64 0, .int .i64 0, .int .i64 0, .int .i64 0, .int .i64 0, .int .i64 0, .int .i64 0, .int .i64 0], none, []⟩,
  ⟨none, .store 100 (.t 6) (.t 23), none, []⟩,
  ⟨none, .store 100 (.t 7) (.t 24), none, []⟩] [2, 16, 22, 23, 24]
def R_paths_Strengths_6 : AC := .ops false [⟨some 25, .load 100 false (.t 6), none, []⟩,
  ⟨some 26, .load 100 false (.t 7), none, []⟩,
  ⟨some 27, .acmp (.arr 10 10 false (.arr 10 1 true (.leaf 0))) true (.t 25) (.t 26), none, []⟩] [25, 26]
def R_paths_Strengths_7 : AC := .ops true [⟨some 28, .slicea 10 10 (.t 7) none none none, none, []⟩,
  ⟨some 29, .slicea 10 10 (.t 6) none none none, none, []⟩,
  ⟨some 30, .copy 10 (.t 28) (.t 29), none, [0, 1]⟩] [27, 28, 29, 30]
def R_paths_Strengths_8 : AC := .ops false [⟨some 31, .load 100 false (.t 6), none, []⟩,
  ⟨some 32, .call (.fn 190) [.t 31], none, []⟩,
  ⟨none, .store 100 (.t 6) (.t 32), none, []⟩] [31, 32]
def L_paths_Strengths_1 : AC := (.seq (.seq R_paths_Strengths_6 (.cond (.t 27) .skip (.exit 1))) (.block 2 (.seq R_paths_Strengths_7 R_paths_Strengths_8)))
def R_paths_Strengths_9 : AC := .ops false [⟨some 33, .load 100 false (.t 6), none, []⟩,
  ⟨none, .store 100 (.t 4) (.t 33), none, []⟩,
  ⟨some 5, .mov (.c (.int .i64 0)), none, []⟩] [6, 7, 27, 33]
def F_paths_Strengths : AFunc := { ntmps := 34, nargs := 2, kills := [[0, 5], [9, 10, 11, 12, 13, 14], [1, 2, 8, 15], [1, 8, 17, 18, 19, 20], [2, 16, 21], [2, 16, 22, 23, 24], [25, 26], [27, 28, 29, 30], [31, 32], [6, 7, 27, 33]], results := [.cell 4 100 false, .t 5], body := (.seq R_paths_Strengths_0 (.seq (.block 0 (.seq R_paths_Strengths_1 (.cond (.t 8) (.seq R_paths_Strengths_2 .ret) (.seq R_paths_Strengths_3 (.cond (.t 16) (.seq R_paths_Strengths_4 .ret) .skip))))) (.seq R_paths_Strengths_5 (.seq (.block 1 (.loop L_paths_Strengths_1)) (.seq R_paths_Strengths_9 .ret))))) }
abbrev k_paths_Strengths : Nat := 112
-- suffrage/choose.Of
def R_choose_Of_0 : AC := .ops false [⟨some 2, .mov (.c (.nilp)), none, []⟩] [2]
def R_choose_Of_1 : AC := .ops false [⟨some 3, .mov (.t 0), none, []⟩,
  ⟨some 4, .call (.fn 35) [.t 3], none, []⟩,
  ⟨some 5, .build [.lst 0 [] (some 0), .lst 0 [] (some 0), .lst 0 [] (some 0), .lst 0 [] (some 0)] [(3, 1, .t 4)], none, []⟩,
  ⟨some 6, .box (.t 5), none, []⟩,
  ⟨some 2, .mov (.t 6), none, []⟩] [0, 3, 4, 5, 6]
def F_choose_Of : AFunc := { ntmps := 7, nargs := 1, kills := [[2], [0, 3, 4, 5, 6]], results := [.t 2], body := (.seq R_choose_Of_0 (.seq R_choose_Of_1 .ret)) }
abbrev k_choose_Of : Nat := 113
-- (*suffrage/choose.Count).First
def R_choose_Count_First_0 : AC := .ops false [⟨some 4, .mov (.c (.int .i64 0)), none, []⟩] [4]
def R_choose_Count_First_1 : AC := .ops false [⟨some 5, .mov (.t 0), none, []⟩,
  ⟨some 6, .mov (.t 1), none, []⟩,
  ⟨some 7, .mov (.t 0), none, []⟩,
  ⟨some 8, .mov (.t 1), none, []⟩,
  ⟨some 9, .call (.fn 192) [.t 7, .t 8], none, []⟩,
  ⟨some 10, .call (.fn 191) [.t 5, .t 6, .t 9], none, []⟩,
  ⟨some 4, .mov (.t 10), none, []⟩] [0, 1, 5, 6, 7, 8, 9, 10]
def F_choose_Count_First : AFunc := { ntmps := 11, nargs := 2, kills := [[4], [0, 1, 5, 6, 7, 8, 9, 10]], results := [.t 4], body := (.seq R_choose_Count_First_0 (.seq R_choose_Count_First_1 .ret)) }
abbrev k_choose_Count_First : Nat := 114
-- suffrage/choose.Best
def R_choose_Best_0 : AC := .ops false [⟨some 4, .mov (.c (.lst 0 [] (some 0))), none, []⟩] []
def R_choose_Best_1 : AC := .ops false [⟨some 7, .mov (.t 0), none, []⟩,
  ⟨some 8, .len (.t 7), none, []⟩,
  ⟨some 9, .mov (.c (.int .i64 0)), none, []⟩] [0]
def R_choose_Best_2 : AC := .ops false [⟨some 10, .bin .lss (.t 9) (.t 8), none, []⟩] []
def R_choose_Best_3 : AC := .ops false [⟨some 11, .ia 1 (.t 7) (.t 9), none, []⟩,
  ⟨some 12, .load 1 true (.t 11), none, []⟩,
  ⟨some 6, .mov (.t 12), none, []⟩] [10, 11, 12]
def R_choose_Best_4 : AC := .ops true [⟨some 14, .mov (.t 4), none, []⟩,
  ⟨some 15, .len (.t 14), none, [0]⟩,
  ⟨some 16, .bin .eql (.t 15) (.c (.int .i64 0)), none, [1]⟩,
  ⟨some 17, .mov (.t 16), none, [2]⟩,
  ⟨some 18, .mov (.t 1), some (17, false), [3]⟩,
  ⟨some 19, .mov (.t 6), some (17, false), [3]⟩,
  ⟨some 20, .call (.dyn (.t 18)) [.t 19], some (17, false), [4, 5, 3, 3]⟩,
  ⟨some 21, .mov (.t 1), some (17, false), [3]⟩,
  ⟨some 22, .mov (.t 4), some (17, false), [3]⟩,
  ⟨some 23, .ia 1 (.t 22) (.c (.int .i64 0)), some (17, false), [8, 3]⟩,
  ⟨some 24, .load 1 true (.t 23), some (17, false), [9, 3]⟩,
  ⟨some 25, .call (.dyn (.t 21)) [.t 24], some (17, false), [7, 10, 6, 3]⟩,
  ⟨some 26, .bin .gtr (.t 20) (.t 25), some (17, false), [6, 11, 3]⟩,
  ⟨some 27, .pick (.t 17) (.c (.bool true)) (.t 26), none, [3, 12]⟩,
  ⟨some 13, .mov (.t 27), none, [13, 11]⟩] [14, 15, 16, 17, 18, 19, 20, 21, 22, 23, 24, 25, 26, 27]
def R_choose_Best_5 : AC := .ops false [⟨some 28, .mov (.t 6), none, []⟩,
  ⟨some 29, .bslice 1 [.int .i64 0] 1 [(0, .t 28)], none, []⟩,
  ⟨some 4, .mov (.t 29), none, []⟩] [6, 13, 28, 29]
def R_choose_Best_6 : AC := .ops true [⟨some 31, .mov (.t 1), none, []⟩,
  ⟨some 32, .mov (.t 6), none, []⟩,
  ⟨some 33, .call (.dyn (.t 31)) [.t 32], none, [0, 1]⟩,
  ⟨some 34, .mov (.t 1), none, []⟩,
  ⟨some 35, .mov (.t 4), none, []⟩,
  ⟨some 36, .ia 1 (.t 35) (.c (.int .i64 0)), none, [4]⟩,
  ⟨some 37, .load 1 true (.t 36), none, [5]⟩,
  ⟨some 38, .call (.dyn (.t 34)) [.t 37], none, [3, 6, 2]⟩,
  ⟨some 39, .bin .eql (.t 33) (.t 38), none, [2, 7]⟩,
  ⟨some 30, .mov (.t 39), none, [8, 7]⟩] [13, 31, 32, 33, 34, 35, 36, 37, 38, 39]
def R_choose_Best_7 : AC := .ops false [⟨some 40, .mov (.t 4), none, []⟩,
  ⟨some 41, .mov (.t 6), none, []⟩,
  ⟨some 42, .bslice 1 [.int .i64 0] 1 [(0, .t 41)], none, []⟩,
  ⟨some 43, .append 1 8 (.t 40) (.t 42), none, []⟩,
  ⟨some 4, .mov (.t 43), none, []⟩] [6, 30, 40, 41, 42, 43]
def R_choose_Best_8 : AC := .ops false [⟨some 44, .bin .add (.t 9) (.c (.int .i64 1)), none, []⟩,
  ⟨some 9, .mov (.t 44), none, []⟩] [6, 30, 44]
def L_choose_Best_1 : AC := (.seq R_choose_Best_2 (.seq (.cond (.t 10) .skip (.exit 0)) (.seq (.block 1 (.seq R_choose_Best_3 (.block 2 (.seq R_choose_Best_4 (.cond (.t 13) R_choose_Best_5 (.seq R_choose_Best_6 (.cond (.t 30) R_choose_Best_7 .skip))))))) R_choose_Best_8)))
def R_choose_Best_9 : AC := .ops false [⟨some 45, .mov (.t 4), none, []⟩,
  ⟨some 4, .mov (.t 45), none, []⟩] [1, 7, 8, 9, 10, 45]
def F_choose_Best : AFunc := { ntmps := 46, nargs := 2, kills := [[], [0], [], [10, 11, 12], [14, 15, 16, 17, 18, 19, 20, 21, 22, 23, 24, 25, 26, 27], [6, 13, 28, 29], [13, 31, 32, 33, 34, 35, 36, 37, 38, 39], [6, 30, 40, 41, 42, 43], [6, 30, 44], [1, 7, 8, 9, 10, 45]], results := [.t 4], body := (.seq R_choose_Best_0 (.seq (.seq R_choose_Best_1 (.block 0 (.loop L_choose_Best_1))) (.seq R_choose_Best_9 .ret))) }
abbrev k_choose_Best : Nat := 115
-- suffrage/choose.All
def R_choose_All_0 : AC := .ops false [⟨some 2, .mov (.c (.lst 0 [] (some 0))), none, []⟩] []
def R_choose_All_1 : AC := .ops false [⟨some 4, .mov (.t 0), none, []⟩,
  ⟨some 5, .mov (.c (.int .i64 0)), none, []⟩] [0]
def R_choose_All_2 : AC := .ops false [⟨some 6, .bin .lss (.t 5) (.t 4), none, []⟩] []
def R_choose_All_3 : AC := .ops false [⟨some 7, .mov (.t 5), none, []⟩,
  ⟨some 3, .mov (.t 7), none, []⟩] [6, 7]
def R_choose_All_4 : AC := .ops false [⟨some 8, .mov (.t 2), none, []⟩,
  ⟨some 9, .mov (.t 3), none, []⟩,
  ⟨some 10, .bslice 1 [.int .i64 0] 1 [(0, .t 9)], none, []⟩,
  ⟨some 11, .append 1 8 (.t 8) (.t 10), none, []⟩,
  ⟨some 2, .mov (.t 11), none, []⟩] [3, 8, 9, 10, 11]
def R_choose_All_5 : AC := .ops false [⟨some 12, .bin .add (.t 5) (.c (.int .i64 1)), none, []⟩,
  ⟨some 5, .mov (.t 12), none, []⟩] [12]
def L_choose_All_1 : AC := (.seq R_choose_All_2 (.seq (.cond (.t 6) .skip (.exit 0)) (.seq (.block 1 (.seq R_choose_All_3 R_choose_All_4)) R_choose_All_5)))
def R_choose_All_6 : AC := .ops false [⟨some 13, .mov (.t 2), none, []⟩,
  ⟨some 2, .mov (.t 13), none, []⟩] [4, 5, 6, 13]
def F_choose_All : AFunc := { ntmps := 14, nargs := 1, kills := [[], [0], [], [6, 7], [3, 8, 9, 10, 11], [12], [4, 5, 6, 13]], results := [.t 2], body := (.seq R_choose_All_0 (.seq (.seq R_choose_All_1 (.block 0 (.loop L_choose_All_1))) (.seq R_choose_All_6 .ret))) }
abbrev k_choose_All : Nat := 116
-- suffrage/paths.Count$1
def R_paths_Count_1_0 : AC := .ops false [⟨some 3, .mov (.c (.int .i64 0)), none, []⟩] [3]
def R_paths_Count_1_1 : AC := .ops false [⟨some 4, .load 1 true (.t 1), none, []⟩,
  ⟨some 5, .mov (.t 0), none, []⟩,
  ⟨some 6, .ia 1 (.t 4) (.t 5), none, []⟩,
  ⟨some 7, .load 1 true (.t 6), none, []⟩,
  ⟨some 3, .mov (.t 7), none, []⟩] [0, 1, 4, 5, 6, 7]
def F_paths_Count_1 : AFunc := { ntmps := 8, nargs := 2, kills := [[3], [0, 1, 4, 5, 6, 7]], results := [.t 3], body := (.seq R_paths_Count_1_0 (.seq R_paths_Count_1_1 .ret)) }
abbrev k_paths_Count_1 : Nat := 117
-- suffrage/choose.Wholes
def R_choose_Wholes_0 : AC := .ops false [⟨some 2, .mov (.c (.lst 0 [] (some 0))), none, []⟩] []
def R_choose_Wholes_1 : AC := .ops false [⟨some 5, .mov (.t 0), none, []⟩,
  ⟨some 6, .len (.t 5), none, []⟩,
  ⟨some 7, .mov (.c (.int .i64 0)), none, []⟩] [0]
def R_choose_Wholes_2 : AC := .ops false [⟨some 8, .bin .lss (.t 7) (.t 6), none, []⟩] []
def R_choose_Wholes_3 : AC := .ops false [⟨some 9, .ia 1 (.t 5) (.t 7), none, []⟩,
  ⟨some 10, .load 1 true (.t 9), none, []⟩,
  ⟨some 4, .mov (.t 10), none, []⟩] [8, 9, 10]
def R_choose_Wholes_4 : AC := .ops false [⟨some 11, .mov (.t 2), none, []⟩,
  ⟨some 12, .mov (.t 4), none, []⟩,
  ⟨some 13, .call (.fn 31) [.t 12], none, []⟩,
  ⟨some 14, .bslice 3 [.bool false, .lst 0 [] (some 0), .lst 0 [] (some 0)] 1 [(0, .t 13)], none, []⟩,
  ⟨some 15, .append 3 56 (.t 11) (.t 14), none, []⟩,
  ⟨some 2, .mov (.t 15), none, []⟩] [4, 11, 12, 13, 14, 15]
def R_choose_Wholes_5 : AC := .ops false [⟨some 16, .bin .add (.t 7) (.c (.int .i64 1)), none, []⟩,
  ⟨some 7, .mov (.t 16), none, []⟩] [16]
def L_choose_Wholes_1 : AC := (.seq R_choose_Wholes_2 (.seq (.cond (.t 8) .skip (.exit 0)) (.seq (.block 1 (.seq R_choose_Wholes_3 R_choose_Wholes_4)) R_choose_Wholes_5)))
def R_choose_Wholes_6 : AC := .ops false [⟨some 17, .mov (.t 2), none, []⟩,
  ⟨some 2, .mov (.t 17), none, []⟩] [5, 6, 7, 8, 17]
def F_choose_Wholes : AFunc := { ntmps := 18, nargs := 1, kills := [[], [0], [], [8, 9, 10], [4, 11, 12, 13, 14, 15], [16], [5, 6, 7, 8, 17]], results := [.t 2], body := (.seq R_choose_Wholes_0 (.seq (.seq R_choose_Wholes_1 (.block 0 (.loop L_choose_Wholes_1))) (.seq R_choose_Wholes_6 .ret))) }
abbrev k_choose_Wholes : Nat := 118
-- suffrage/ranked.Lock
def R_ranked_Lock_0 : AC := .ops false [⟨some 3, .box (.t 0), none, []⟩,
  ⟨some 6, .mov (.c (.lst 0 [] (some 0))), none, []⟩,
  ⟨some 7, .mov (.c (.int .i64 0)), none, []⟩] [0, 7]
def R_ranked_Lock_1 : AC := .ops false [⟨some 12, .load 100 false (.t 3), none, []⟩,
  ⟨some 13, .mov (.t 1), none, []⟩,
  ⟨some 14, .mov (.t 2), none, []⟩,
  ⟨some 15, .call (.fn 193) [.t 12, .t 13, .t 14], none, []⟩,
  ⟨some 11, .mov (.t 15), none, []⟩,
  ⟨some 16, .ext (.t 11) 0, none, []⟩,
  ⟨some 17, .ext (.t 11) 1, none, []⟩,
  ⟨some 8, .mov (.t 16), none, []⟩,
  ⟨some 7, .mov (.t 17), none, []⟩] [1, 2, 3, 11, 12, 13, 14, 15, 16, 17]
def R_ranked_Lock_2 : AC := .ops false [⟨some 18, .mov (.t 8), none, []⟩,
  ⟨some 19, .len (.t 18), none, []⟩,
  ⟨some 20, .mov (.c (.int .i64 0)), none, []⟩] [8]
def R_ranked_Lock_3 : AC := .ops false [⟨some 21, .bin .lss (.t 20) (.t 19), none, []⟩] []
def R_ranked_Lock_4 : AC := .ops false [⟨some 22, .ia 4 (.t 18) (.t 20), none, []⟩,
  ⟨some 23, .load 4 false (.t 22), none, []⟩,
  ⟨some 10, .alloc [.int .i64 0, .int .i64 0, .int .i64 0, .int .i64 0], none, []⟩,
  ⟨none, .store 4 (.t 10) (.t 23), none, []⟩] [21, 22, 23]
def R_ranked_Lock_5 : AC := .ops false [⟨some 24, .mov (.t 6), none, []⟩,
  ⟨some 25, .fa (.t 10) 1, none, []⟩,
  ⟨some 26, .load 1 true (.t 25), none, []⟩,
  ⟨some 27, .fa (.t 10) 0, none, []⟩,
  ⟨some 28, .load 1 true (.t 27), none, []⟩,
  ⟨some 29, .call (.fn 194) [.t 24, .t 26, .t 28], none, []⟩,
  ⟨some 30, .un .not (.t 29), none, []⟩] [24, 25, 26, 27, 28, 29]
def R_ranked_Lock_6 : AC := .ops false [⟨some 31, .mov (.t 6), none, []⟩,
  ⟨some 32, .load 4 false (.t 10), none, []⟩,
  ⟨some 33, .bslice 4 [.int .i64 0, .int .i64 0, .int .i64 0, .int .i64 0] 1 [(0, .t 32)], none, []⟩,
  ⟨some 34, .append 4 32 (.t 31) (.t 33), none, []⟩,
  ⟨some 6, .mov (.t 34), none, []⟩] [10, 30, 31, 32, 33, 34]
def R_ranked_Lock_7 : AC := .ops false [⟨some 35, .bin .add (.t 20) (.c (.int .i64 1)), none, []⟩,
  ⟨some 20, .mov (.t 35), none, []⟩] [10, 30, 35]
def L_ranked_Lock_1 : AC := (.seq R_ranked_Lock_3 (.seq (.cond (.t 21) .skip (.exit 0)) (.seq (.block 1 (.seq R_ranked_Lock_4 (.seq R_ranked_Lock_5 (.cond (.t 30) R_ranked_Lock_6 .skip)))) R_ranked_Lock_7)))
def R_ranked_Lock_8 : AC := .ops false [⟨some 36, .mov (.t 6), none, []⟩,
  ⟨some 37, .mov (.t 7), none, []⟩,
  ⟨some 6, .mov (.t 36), none, []⟩,
  ⟨some 7, .mov (.t 37), none, []⟩] [18, 19, 20, 21, 36, 37]
def F_ranked_Lock : AFunc := { ntmps := 38, nargs := 3, kills := [[0, 7], [1, 2, 3, 11, 12, 13, 14, 15, 16, 17], [8], [], [21, 22, 23], [24, 25, 26, 27, 28, 29], [10, 30, 31, 32, 33, 34], [10, 30, 35], [18, 19, 20, 21, 36, 37]], results := [.t 6, .t 7], body := (.seq R_ranked_Lock_0 (.seq R_ranked_Lock_1 (.seq (.seq R_ranked_Lock_2 (.block 0 (.loop L_ranked_Lock_1))) (.seq R_ranked_Lock_8 .ret)))) }
abbrev k_ranked_Lock : Nat := 119
-- slices.Contains[[]suffrage/api.Link,suffrage/api.Link]
def R_slices_Contains_2_0 : AC := .ops false [⟨some 3, .box (.t 1), none, []⟩,
  ⟨some 4, .mov (.c (.bool false)), none, []⟩] [1, 4]
def R_slices_Contains_2_1 : AC := .ops false [⟨some 5, .mov (.t 0), none, []⟩,
  ⟨some 6, .load 4 false (.t 3), none, []⟩,
  ⟨some 7, .call (.fn 195) [.t 5, .t 6], none, []⟩,
  ⟨some 8, .bin .geq (.t 7) (.c (.int .i64 0)), none, []⟩,
  ⟨some 4, .mov (.t 8), none, []⟩] [0, 3, 5, 6, 7, 8]
def F_slices_Contains_2 : AFunc := { ntmps := 9, nargs := 2, kills := [[1, 4], [0, 3, 5, 6, 7, 8]], results := [.t 4], body := (.seq R_slices_Contains_2_0 (.seq R_slices_Contains_2_1 .ret)) }
abbrev k_slices_Contains_2 : Nat := 120
-- slices.DeleteFunc[[]int,int]
def R_slices_DeleteFunc_0 : AC := .ops false [⟨some 4, .mov (.c (.lst 0 [] (some 0))), none, []⟩] [4]
def R_slices_DeleteFunc_1 : AC := .ops false [⟨some 8, .mov (.t 0), none, []⟩,
  ⟨some 9, .mov (.t 1), none, []⟩,
  ⟨some 10, .call (.fn 148) [.t 8, .t 9], none, []⟩,
  ⟨some 5, .mov (.t 10), none, []⟩] [8, 9, 10]
def R_slices_DeleteFunc_2 : AC := .ops false [⟨some 11, .mov (.t 5), none, []⟩,
  ⟨some 12, .bin .eql (.t 11) (.c (.int .i64 (-1))), none, []⟩] [11]
def R_slices_DeleteFunc_3 : AC := .ops false [⟨some 13, .mov (.t 0), none, []⟩,
  ⟨some 4, .mov (.t 13), none, []⟩] [0, 1, 5, 12, 13]
def R_slices_DeleteFunc_4 : AC := .ops false [⟨some 14, .mov (.t 5), none, []⟩,
  ⟨some 15, .bin .add (.t 14) (.c (.int .i64 1)), none, []⟩,
  ⟨some 6, .mov (.t 15), none, []⟩] [12, 14, 15]
def R_slices_DeleteFunc_5 : AC := .ops false [⟨some 16, .mov (.t 6), none, []⟩,
  ⟨some 17, .mov (.t 0), none, []⟩,
  ⟨some 18, .len (.t 17), none, []⟩,
  ⟨some 19, .bin .lss (.t 16) (.t 18), none, []⟩] [16, 17, 18]
def R_slices_DeleteFunc_7 : AC := .ops false [⟨some 22, .mov (.t 0), none, []⟩,
  ⟨some 23, .mov (.t 6), none, []⟩,
  ⟨some 24, .ia 1 (.t 22) (.t 23), none, []⟩,
  ⟨some 25, .load 1 true (.t 24), none, []⟩,
  ⟨some 7, .mov (.t 25), none, []⟩] [19, 22, 23, 24, 25]
def R_slices_DeleteFunc_8 : AC := .ops false [⟨some 26, .mov (.t 1), none, []⟩,
  ⟨some 27, .mov (.t 7), none, []⟩,
  ⟨some 28, .call (.dyn (.t 26)) [.t 27], none, []⟩,
  ⟨some 29, .un .not (.t 28), none, []⟩] [26, 27, 28]
def R_slices_DeleteFunc_9 : AC := .ops false [⟨some 30, .mov (.t 0), none, []⟩,
  ⟨some 31, .mov (.t 5), none, []⟩,
  ⟨some 32, .mov (.t 7), none, []⟩,
  ⟨some 33, .ia 1 (.t 30) (.t 31), none, []⟩,
  ⟨none, .store 1 (.t 33) (.t 32), none, []⟩] [7, 29, 30, 31, 32, 33]
def R_slices_DeleteFunc_10 : AC := .ops false [⟨some 34, .mov (.t 5), none, []⟩,
  ⟨some 35, .bin .add (.t 34) (.c (.int .i64 1)), none, []⟩,
  ⟨some 5, .mov (.t 35), none, []⟩] [34, 35]
def R_slices_DeleteFunc_6 : AC := .ops false [⟨some 20, .mov (.t 6), none, []⟩,
  ⟨some 21, .bin .add (.t 20) (.c (.int .i64 1)), none, []⟩,
  ⟨some 6, .mov (.t 21), none, []⟩] [7, 20, 21, 29]
def L_slices_DeleteFunc_1 : AC := (.seq (.seq R_slices_DeleteFunc_5 (.cond (.t 19) .skip (.exit 0))) (.seq (.block 1 (.seq R_slices_DeleteFunc_7 (.seq R_slices_DeleteFunc_8 (.cond (.t 29) (.seq R_slices_DeleteFunc_9 R_slices_DeleteFunc_10) .skip)))) R_slices_DeleteFunc_6))
def R_slices_DeleteFunc_11 : AC := .ops false [⟨some 36, .mov (.t 0), none, []⟩,
  ⟨some 37, .mov (.t 5), none, []⟩,
  ⟨some 38, .slice 1 (.t 36) (some (.t 37)) none none, none, []⟩,
  ⟨none, .clr 1 [.int .i64 0] (.t 38), none, []⟩] [1, 6, 19, 36, 37, 38]
def R_slices_DeleteFunc_12 : AC := .ops false [⟨some 39, .mov (.t 0), none, []⟩,
  ⟨some 40, .mov (.t 5), none, []⟩,
  ⟨some 41, .slice 1 (.t 39) none (some (.t 40)) none, none, []⟩,
  ⟨some 4, .mov (.t 41), none, []⟩] [0, 5, 39, 40, 41]
def F_slices_DeleteFunc : AFunc := { ntmps := 42, nargs := 2, kills := [[4], [8, 9, 10], [11], [0, 1, 5, 12, 13], [12, 14, 15], [16, 17, 18], [7, 20, 21, 29], [19, 22, 23, 24, 25], [26, 27, 28], [7, 29, 30, 31, 32, 33], [34, 35], [1, 6, 19, 36, 37, 38], [0, 5, 39, 40, 41]], results := [.t 4], body := (.seq R_slices_DeleteFunc_0 (.seq R_slices_DeleteFunc_1 (.seq (.seq R_slices_DeleteFunc_2 (.cond (.t 12) (.seq R_slices_DeleteFunc_3 .ret) .skip)) (.seq (.seq R_slices_DeleteFunc_4 (.block 0 (.loop L_slices_DeleteFunc_1))) (.seq R_slices_DeleteFunc_11 (.seq R_slices_DeleteFunc_12 .ret)))))) }
abbrev k_slices_DeleteFunc : Nat := 121
-- suffrage/ranked.Count$1
def R_ranked_Count_1_0 : AC := .ops false [⟨some 3, .mov (.c (.bool false)), none, []⟩] [3]
def R_ranked_Count_1_1 : AC := .ops false [⟨some 4, .mov (.t 0), none, []⟩,
  ⟨some 5, .fa (.t 1) 1, none, []⟩,
  ⟨some 6, .load 1 true (.t 5), none, []⟩,
  ⟨some 7, .bin .eql (.t 4) (.t 6), none, []⟩,
  ⟨some 3, .mov (.t 7), none, []⟩] [0, 1, 4, 5, 6, 7]
def F_ranked_Count_1 : AFunc := { ntmps := 8, nargs := 2, kills := [[3], [0, 1, 4, 5, 6, 7]], results := [.t 3], body := (.seq R_ranked_Count_1_0 (.seq R_ranked_Count_1_1 .ret)) }
abbrev k_ranked_Count_1 : Nat := 122
-- (*suffrage/runoff.count).round
def R_runoff_count_round_0 : AC := .ops false [⟨some 1, .box (.t 0), none, []⟩,
  ⟨some 2, .mov (.c (.bool false)), none, []⟩] [0, 2]
def R_runoff_count_round_1 : AC := .ops false [⟨some 12, .load 1 true (.t 1), none, []⟩,
  ⟨some 13, .nilchk (.t 12), none, []⟩,
  ⟨some 14, .fa (.t 13) 1, none, []⟩,
  ⟨some 15, .load 3 false (.t 14), none, []⟩,
  ⟨some 16, .mkfn 197 [] [.t 1], none, []⟩,
  ⟨some 17, .call (.fn 196) [.t 15, .t 16], none, []⟩,
  ⟨some 11, .mov (.t 17), none, []⟩,
  ⟨some 18, .ext (.t 11) 0, none, []⟩,
  ⟨some 19, .ext (.t 11) 1, none, []⟩,
  ⟨some 3, .alloc [.lst 0 [] (some 0)], none, []⟩,
  ⟨none, .store 1 (.t 3) (.t 18), none, []⟩,
  ⟨some 4, .mov (.t 19), none, []⟩] [11, 12, 13, 14, 15, 16, 17, 18, 19]
def R_runoff_count_round_2 : AC := .ops false [⟨some 5, .mov (.c (.int .i64 0)), none, []⟩] []
def R_runoff_count_round_3 : AC := .ops false [⟨some 20, .load 1 true (.t 3), none, []⟩,
  ⟨some 21, .len (.t 20), none, []⟩,
  ⟨some 22, .mov (.c (.int .i64 0)), none, []⟩] []
def R_runoff_count_round_4 : AC := .ops false [⟨some 23, .bin .lss (.t 22) (.t 21), none, []⟩] []
def R_runoff_count_round_5 : AC := .ops false [⟨some 24, .ia 1 (.t 20) (.t 22), none, []⟩,
  ⟨some 25, .load 1 true (.t 24), none, []⟩,
  ⟨some 7, .mov (.t 25), none, []⟩] [23, 24, 25]
def R_runoff_count_round_6 : AC := .ops false [⟨some 26, .mov (.t 5), none, []⟩,
  ⟨some 27, .mov (.t 7), none, []⟩,
  ⟨some 28, .bin .add (.t 26) (.t 27), none, []⟩,
  ⟨some 5, .mov (.t 28), none, []⟩] [7, 26, 27, 28]
def R_runoff_count_round_7 : AC := .ops false [⟨some 29, .bin .add (.t 22) (.c (.int .i64 1)), none, []⟩,
  ⟨some 22, .mov (.t 29), none, []⟩] [29]
def L_runoff_count_round_1 : AC := (.seq R_runoff_count_round_4 (.seq (.cond (.t 23) .skip (.exit 0)) (.seq (.block 1 (.seq R_runoff_count_round_5 R_runoff_count_round_6)) R_runoff_count_round_7)))
def R_runoff_count_round_8 : AC := .ops false [⟨some 30, .load 1 true (.t 1), none, []⟩,
  ⟨some 31, .nilchk (.t 30), none, []⟩,
  ⟨some 32, .fa (.t 31) 4, none, []⟩,
  ⟨some 33, .load 1 true (.t 32), none, []⟩,
  ⟨some 34, .mkfn 199 [] [.t 3], none, []⟩,
  ⟨some 35, .call (.fn 115) [.t 33, .t 34], none, []⟩,
  ⟨some 8, .mov (.t 35), none, []⟩] [20, 21, 22, 23, 30, 31, 32, 33, 34, 35]
def R_runoff_count_round_9 : AC := .ops false [⟨some 36, .load 1 true (.t 3), none, []⟩,
  ⟨some 37, .call (.fn 118) [.t 36], none, []⟩,
  ⟨some 38, .mov (.t 4), none, []⟩,
  ⟨some 39, .call (.fn 31) [.t 38], none, []⟩,
  ⟨some 40, .build [.lst 0 [] (some 0), .bool false, .lst 0 [] (some 0), .lst 0 [] (some 0), .lst 0 [] (some 0), .lst 0 [] (some 0)] [(0, 1, .t 37), (1, 3, .t 39)], none, []⟩,
  ⟨some 9, .alloc [.lst 0 [] (some 0), .bool false, .lst 0 [] (some 0), .lst 0 [] (some 0), .lst 0 [] (some 0), .lst 0 [] (some 0)], none, []⟩,
  ⟨none, .store 6 (.t 9) (.t 40), none, []⟩] [4, 36, 37, 38, 39, 40]
def R_runoff_count_round_10 : AC := .ops true [⟨some 41, .load 1 true (.t 1), none, []⟩,
  ⟨some 42, .nilchk (.t 41), none, [0]⟩,
  ⟨some 43, .fa (.t 42) 4, none, [1]⟩,
  ⟨some 44, .load 1 true (.t 43), none, [2]⟩,
  ⟨some 45, .len (.t 44), none, [3]⟩,
  ⟨some 46, .bin .eql (.t 45) (.c (.int .i64 1)), none, [4]⟩,
  ⟨some 47, .mov (.t 46), none, [5]⟩,
  ⟨some 48, .load 1 true (.t 3), some (47, false), [6]⟩,
  ⟨some 49, .mov (.t 8), some (47, false), [6]⟩,
  ⟨some 50, .ia 1 (.t 49) (.c (.int .i64 0)), some (47, false), [8, 6]⟩,
  ⟨some 51, .load 1 true (.t 50), some (47, false), [9, 6]⟩,
  ⟨some 52, .ia 1 (.t 48) (.t 51), some (47, false), [7, 10, 6]⟩,
  ⟨some 53, .load 1 true (.t 52), some (47, false), [11, 6]⟩,
  ⟨some 54, .bin .mul (.c (.int .i64 2)) (.t 53), some (47, false), [12, 6]⟩,
  ⟨some 55, .mov (.t 5), some (47, false), [6]⟩,
  ⟨some 56, .bin .gtr (.t 54) (.t 55), some (47, false), [13, 14, 6]⟩,
  ⟨some 57, .pick (.t 47) (.c (.bool true)) (.t 56), none, [6, 15]⟩] [5, 41, 42, 43, 44, 45, 46, 47, 48, 49, 50, 51, 52, 53, 54, 55, 56]
def R_runoff_count_round_11 : AC := .ops true [⟨some 58, .load 1 true (.t 1), none, []⟩,
  ⟨some 59, .nilchk (.t 58), none, [0]⟩,
  ⟨some 60, .fa (.t 59) 0, none, [1]⟩,
  ⟨some 61, .load 1 true (.t 60), none, [2]⟩,
  ⟨some 62, .mov (.t 8), none, []⟩,
  ⟨some 63, .ia 1 (.t 62) (.c (.int .i64 0)), none, [4]⟩,
  ⟨some 64, .load 1 true (.t 63), none, [5]⟩,
  ⟨some 65, .bslice 1 [.int .i64 0] 1 [(0, .t 64)], none, [6]⟩,
  ⟨some 66, .nilchk (.t 61), none, [3, 0, 1, 2, 3, 4, 5, 6, 7]⟩,
  ⟨some 67, .fa (.t 66) 0, none, [8, 0, 1, 2, 3, 4, 5, 6, 7]⟩,
  ⟨some 68, .fa (.t 67) 0, none, [9, 0, 1, 2, 3, 4, 5, 6, 7]⟩,
  ⟨none, .store 1 (.t 68) (.t 65), none, [10, 7, 0, 1, 2, 3, 4, 5, 6, 7]⟩] [3, 57, 58, 59, 60, 61, 62, 63, 64, 65, 66, 67, 68]
def R_runoff_count_round_12 : AC := .ops false [⟨some 69, .mov (.t 8), none, []⟩,
  ⟨some 70, .ia 1 (.t 69) (.c (.int .i64 0)), none, []⟩,
  ⟨some 71, .load 1 true (.t 70), none, []⟩,
  ⟨some 72, .bslice 1 [.int .i64 0] 1 [(0, .t 71)], none, []⟩,
  ⟨some 73, .fa (.t 9) 4, none, []⟩,
  ⟨none, .store 1 (.t 73) (.t 72), none, []⟩] [8, 69, 70, 71, 72, 73]
def R_runoff_count_round_13 : AC := .ops true [⟨some 74, .load 1 true (.t 1), none, []⟩,
  ⟨some 75, .nilchk (.t 74), none, [0]⟩,
  ⟨some 76, .fa (.t 75) 0, none, [1]⟩,
  ⟨some 77, .load 1 true (.t 76), none, [2]⟩,
  ⟨some 78, .load 1 true (.t 1), none, []⟩,
  ⟨some 79, .nilchk (.t 78), none, [4]⟩,
  ⟨some 80, .fa (.t 79) 4, none, [5]⟩,
  ⟨some 81, .load 1 true (.t 80), none, [6]⟩,
  ⟨some 82, .mkfn 202 [] [.t 3], none, []⟩,
  ⟨some 83, .call (.fn 201) [.t 81, .t 82], none, [7, 8]⟩,
  ⟨some 84, .call (.fn 200) [.t 77, .t 83], none, [3, 9, 9]⟩,
  ⟨some 10, .alloc [.int .i64 0], none, []⟩,
  ⟨none, .store 1 (.t 10) (.t 84), none, [11, 10, 10, 0, 1, 2, 3, 4, 5, 6, 7, 8, 9, 10, 11]⟩] [3, 8, 57, 74, 75, 76, 77, 78, 79, 80, 81, 82, 83, 84]
def R_runoff_count_round_14 : AC := .ops true [⟨some 85, .load 1 true (.t 1), none, []⟩,
  ⟨some 86, .load 1 true (.t 1), none, []⟩,
  ⟨some 87, .nilchk (.t 86), none, [1]⟩,
  ⟨some 88, .fa (.t 87) 4, none, [2]⟩,
  ⟨some 89, .load 1 true (.t 88), none, [3]⟩,
  ⟨some 90, .mkfn 203 [] [.t 10], none, []⟩,
  ⟨some 91, .call (.fn 121) [.t 89, .t 90], none, [4, 5]⟩,
  ⟨some 92, .nilchk (.t 85), none, [0, 0, 1, 2, 3, 4, 5, 6]⟩,
  ⟨some 93, .fa (.t 92) 4, none, [7, 0, 1, 2, 3, 4, 5, 6]⟩,
  ⟨none, .store 1 (.t 93) (.t 91), none, [8, 6, 6, 0, 1, 2, 3, 4, 5, 6]⟩] [85, 86, 87, 88, 89, 90, 91, 92, 93]
def R_runoff_count_round_15 : AC := .ops false [⟨some 94, .load 1 true (.t 10), none, []⟩,
  ⟨some 95, .bslice 1 [.int .i64 0] 1 [(0, .t 94)], none, []⟩,
  ⟨some 96, .fa (.t 9) 5, none, []⟩,
  ⟨none, .store 1 (.t 96) (.t 95), none, []⟩] [10, 94, 95, 96]
def R_runoff_count_round_16 : AC := .ops true [⟨some 97, .load 1 true (.t 1), none, []⟩,
  ⟨some 98, .nilchk (.t 97), none, [0]⟩,
  ⟨some 99, .fa (.t 98) 0, none, [1]⟩,
  ⟨some 100, .load 1 true (.t 99), none, [2]⟩,
  ⟨some 101, .load 1 true (.t 1), none, []⟩,
  ⟨some 102, .nilchk (.t 101), none, [4]⟩,
  ⟨some 103, .fa (.t 102) 0, none, [5]⟩,
  ⟨some 104, .load 1 true (.t 103), none, [6]⟩,
  ⟨some 105, .nilchk (.t 104), none, [7]⟩,
  ⟨some 106, .fa (.t 105) 0, none, [8]⟩,
  ⟨some 107, .fa (.t 106) 1, none, [9]⟩,
  ⟨some 108, .load 1 true (.t 107), none, [10]⟩,
  ⟨some 109, .load 6 false (.t 9), none, []⟩,
  ⟨some 110, .bslice 6 [.lst 0 [] (some 0), .bool false, .lst 0 [] (some 0), .lst 0 [] (some 0), .lst 0 [] (some 0), .lst 0 [] (some 0)] 1 [(0, .t 109)], none, [12]⟩,
  ⟨some 111, .append 6 128 (.t 108) (.t 110), none, [11, 13]⟩,
  ⟨some 112, .nilchk (.t 100), none, [3, 0, 1, 2, 3, 4, 5, 6, 7, 8, 9, 10, 11, 12, 13, 14]⟩,
  ⟨some 113, .fa (.t 112) 0, none, [15, 0, 1, 2, 3, 4, 5, 6, 7, 8, 9, 10, 11, 12, 13, 14]⟩,
  ⟨some 114, .fa (.t 113) 1, none, [16, 0, 1, 2, 3, 4, 5, 6, 7, 8, 9, 10, 11, 12, 13, 14]⟩,
  ⟨none, .store 1 (.t 114) (.t 111), none, [17, 14, 14, 0, 1, 2, 3, 4, 5, 6, 7, 8, 9, 10, 11, 12, 13, 14]⟩] [9, 97, 98, 99, 100, 101, 102, 103, 104, 105, 106, 107, 108, 109, 110, 111, 112, 113, 114]
def R_runoff_count_round_17 : AC := .ops false [⟨some 115, .load 1 true (.t 1), none, []⟩,
  ⟨some 116, .nilchk (.t 115), none, []⟩,
  ⟨some 117, .fa (.t 116) 0, none, []⟩,
  ⟨some 118, .load 1 true (.t 117), none, []⟩,
  ⟨some 119, .nilchk (.t 118), none, []⟩,
  ⟨some 120, .fa (.t 119) 0, none, []⟩,
  ⟨some 121, .fa (.t 120) 0, none, []⟩,
  ⟨some 122, .load 1 true (.t 121), none, []⟩,
  ⟨some 123, .len (.t 122), none, []⟩,
  ⟨some 124, .bin .gtr (.t 123) (.c (.int .i64 0)), none, []⟩,
  ⟨some 2, .mov (.t 124), none, []⟩] [1, 115, 116, 117, 118, 119, 120, 121, 122, 123, 124]
def F_runoff_count_round : AFunc := { ntmps := 125, nargs := 1, kills := [[0, 2], [11, 12, 13, 14, 15, 16, 17, 18, 19], [], [], [], [23, 24, 25], [7, 26, 27, 28], [29], [20, 21, 22, 23, 30, 31, 32, 33, 34, 35], [4, 36, 37, 38, 39, 40], [5, 41, 42, 43, 44, 45, 46, 47, 48, 49, 50, 51, 52, 53, 54, 55, 56], [3, 57, 58, 59, 60, 61, 62, 63, 64, 65, 66, 67, 68], [8, 69, 70, 71, 72, 73], [3, 8, 57, 74, 75, 76, 77, 78, 79, 80, 81, 82, 83, 84], [85, 86, 87, 88, 89, 90, 91, 92, 93], [10, 94, 95, 96], [9, 97, 98, 99, 100, 101, 102, 103, 104, 105, 106, 107, 108, 109, 110, 111, 112, 113, 114], [1, 115, 116, 117, 118, 119, 120, 121, 122, 123, 124]], results := [.t 2], body := (.seq R_runoff_count_round_0 (.seq R_runoff_count_round_1 (.seq R_runoff_count_round_2 (.seq (.seq R_runoff_count_round_3 (.block 0 (.loop L_runoff_count_round_1))) (.seq R_runoff_count_round_8 (.seq R_runoff_count_round_9 (.seq (.seq R_runoff_count_round_10 (.cond (.t 57) (.seq R_runoff_count_round_11 R_runoff_count_round_12) (.seq R_runoff_count_round_13 (.seq R_runoff_count_round_14 R_runoff_count_round_15)))) (.seq R_runoff_count_round_16 (.seq R_runoff_count_round_17 .ret))))))))) }
abbrev k_runoff_count_round : Nat := 123
-- suffrage/coombs.rounds
def R_coombs_rounds_0 : AC := .ops false [⟨some 3, .box (.t 0), none, []⟩,
  ⟨some 6, .alloc [.lst 0 [] (some 0), .lst 0 [] (some 0), .lst 0 [] (some 0)], none, []⟩] [0]
def R_coombs_rounds_1 : AC := .ops true [⟨some 18, .mov (.t 1), none, []⟩,
  ⟨some 19, .call (.fn 113) [.t 18], none, [0]⟩,
  ⟨some 20, .fa (.t 3) 0, none, []⟩,
  ⟨some 21, .load 1 true (.t 20), none, [2]⟩,
  ⟨some 22, .call (.fn 116) [.t 21], none, [3, 1]⟩,
  ⟨some 7, .mov (.t 19), none, [1, 4, 0, 1]⟩,
  ⟨some 8, .mov (.t 22), none, [4, 5, 0, 1, 2, 3, 4, 5]⟩] [1, 18, 19, 20, 21, 22]
def R_coombs_rounds_2 : AC := .ops false [⟨some 23, .fa (.t 3) 0, none, []⟩,
  ⟨some 24, .load 1 true (.t 23), none, []⟩,
  ⟨some 25, .mkslice 1 1 [.bool false] (.t 24) (.t 24), none, []⟩,
  ⟨some 9, .mov (.t 25), none, []⟩] [23, 24, 25]
def R_coombs_rounds_3 : AC := .ops false [⟨some 26, .mov (.t 9), none, []⟩,
  ⟨some 27, .len (.t 26), none, []⟩,
  ⟨some 28, .mov (.c (.int .i64 0)), none, []⟩] [26]
def R_coombs_rounds_4 : AC := .ops false [⟨some 29, .bin .lss (.t 28) (.t 27), none, []⟩] []
def R_coombs_rounds_5 : AC := .ops false [⟨some 30, .mov (.t 28), none, []⟩,
  ⟨some 10, .mov (.t 30), none, []⟩] [29, 30]
def R_coombs_rounds_6 : AC := .ops false [⟨some 31, .mov (.t 9), none, []⟩,
  ⟨some 32, .mov (.t 10), none, []⟩,
  ⟨some 33, .ia 1 (.t 31) (.t 32), none, []⟩,
  ⟨none, .store 1 (.t 33) (.c (.bool true)), none, []⟩] [10, 31, 32, 33]
def R_coombs_rounds_7 : AC := .ops false [⟨some 34, .bin .add (.t 28) (.c (.int .i64 1)), none, []⟩,
  ⟨some 28, .mov (.t 34), none, []⟩] [34]
def L_coombs_rounds_1 : AC := (.seq R_coombs_rounds_4 (.seq (.cond (.t 29) .skip (.exit 0)) (.seq (.block 1 (.seq R_coombs_rounds_5 R_coombs_rounds_6)) R_coombs_rounds_7)))
def R_coombs_rounds_8 : AC := .ops false [⟨some 36, .load 3 false (.t 3), none, []⟩,
  ⟨some 37, .mov (.t 9), none, []⟩,
  ⟨some 38, .call (.fn 204) [.t 36, .t 37], none, []⟩,
  ⟨some 35, .mov (.t 38), none, []⟩,
  ⟨some 39, .ext (.t 35) 0, none, []⟩,
  ⟨some 40, .ext (.t 35) 1, none, []⟩,
  ⟨some 41, .ext (.t 35) 2, none, []⟩,
  ⟨some 11, .mov (.t 39), none, []⟩,
  ⟨some 12, .mov (.t 40), none, []⟩,
  ⟨some 13, .mov (.t 41), none, []⟩] [13, 27, 28, 29, 35, 36, 37, 38, 39, 40, 41]
def R_coombs_rounds_9 : AC := .ops false [⟨some 42, .mov (.t 11), none, []⟩,
  ⟨some 43, .call (.fn 118) [.t 42], none, []⟩,
  ⟨some 44, .mov (.t 12), none, []⟩,
  ⟨some 45, .call (.fn 31) [.t 44], none, []⟩,
  ⟨some 46, .build [.lst 0 [] (some 0), .bool false, .lst 0 [] (some 0), .lst 0 [] (some 0), .lst 0 [] (some 0), .lst 0 [] (some 0)] [(0, 1, .t 43), (1, 3, .t 45)], none, []⟩,
  ⟨some 14, .alloc [.lst 0 [] (some 0), .bool false, .lst 0 [] (some 0), .lst 0 [] (some 0), .lst 0 [] (some 0), .lst 0 [] (some 0)], none, []⟩,
  ⟨none, .store 6 (.t 14) (.t 46), none, []⟩] [12, 42, 43, 44, 45, 46]
def R_coombs_rounds_10 : AC := .ops false [⟨some 48, .mov (.t 2), none, []⟩,
  ⟨some 49, .mov (.t 11), none, []⟩,
  ⟨some 50, .mov (.t 8), none, []⟩,
  ⟨some 51, .call (.meth (.t 48) [(200, 355)]) [.t 49, .t 50], none, []⟩,
  ⟨some 47, .mov (.t 51), none, []⟩,
  ⟨some 52, .ext (.t 47) 0, none, []⟩,
  ⟨some 53, .ext (.t 47) 1, none, []⟩,
  ⟨some 15, .mov (.t 52), none, []⟩,
  ⟨some 16, .mov (.t 53), none, []⟩] [11, 47, 48, 49, 50, 51, 52, 53]
def R_coombs_rounds_11 : AC := .ops false [⟨some 54, .mov (.t 16), none, []⟩] [16]
def R_coombs_rounds_12 : AC := .ops false [⟨some 55, .mov (.t 7), none, []⟩,
  ⟨some 56, .mov (.t 15), none, []⟩,
  ⟨some 57, .bslice 1 [.int .i64 0] 1 [(0, .t 56)], none, []⟩,
  ⟨some 58, .mov (.t 15), none, []⟩,
  ⟨some 59, .bslice 1 [.int .i64 0] 1 [(0, .t 58)], none, []⟩,
  ⟨some 60, .fa (.t 14) 4, none, []⟩,
  ⟨none, .store 1 (.t 60) (.t 57), none, []⟩,
  ⟨some 61, .nilchk (.t 55), none, []⟩,
  ⟨some 62, .fa (.t 61) 0, none, []⟩,
  ⟨some 63, .fa (.t 62) 0, none, []⟩,
  ⟨none, .store 1 (.t 63) (.t 59), none, []⟩] [2, 3, 8, 9, 15, 54, 55, 56, 57, 58, 59, 60, 61, 62, 63]
def R_coombs_rounds_13 : AC := .ops true [⟨some 64, .mov (.t 7), none, []⟩,
  ⟨some 65, .mov (.t 7), none, []⟩,
  ⟨some 66, .nilchk (.t 65), none, [1]⟩,
  ⟨some 67, .fa (.t 66) 0, none, [2]⟩,
  ⟨some 68, .fa (.t 67) 1, none, [3]⟩,
  ⟨some 69, .load 1 true (.t 68), none, [4]⟩,
  ⟨some 70, .load 6 false (.t 14), none, []⟩,
  ⟨some 71, .bslice 6 [.lst 0 [] (some 0), .bool false, .lst 0 [] (some 0), .lst 0 [] (some 0), .lst 0 [] (some 0), .lst 0 [] (some 0)] 1 [(0, .t 70)], none, [6]⟩,
  ⟨some 72, .append 6 128 (.t 69) (.t 71), none, [5, 7]⟩,
  ⟨some 73, .nilchk (.t 64), none, [0, 0, 1, 2, 3, 4, 5, 6, 7, 8]⟩,
  ⟨some 74, .fa (.t 73) 0, none, [9, 0, 1, 2, 3, 4, 5, 6, 7, 8]⟩,
  ⟨some 75, .fa (.t 74) 1, none, [10, 0, 1, 2, 3, 4, 5, 6, 7, 8]⟩,
  ⟨none, .store 1 (.t 75) (.t 72), none, [11, 8, 8, 0, 1, 2, 3, 4, 5, 6, 7, 8]⟩] [14, 64, 65, 66, 67, 68, 69, 70, 71, 72, 73, 74, 75]
def R_coombs_rounds_14 : AC := .ops false [⟨some 76, .mov (.t 7), none, []⟩,
  ⟨some 77, .nilchk (.t 76), none, []⟩,
  ⟨some 78, .fa (.t 77) 0, none, []⟩,
  ⟨some 79, .load 3 false (.t 78), none, []⟩,
  ⟨none, .store 3 (.t 6) (.t 79), none, []⟩] [7, 76, 77, 78, 79]
def R_coombs_rounds_15 : AC := .ops false [⟨some 80, .mov (.t 7), none, []⟩,
  ⟨some 81, .mov (.t 2), none, []⟩,
  ⟨some 82, .mov (.t 8), none, []⟩,
  ⟨some 83, .call (.meth (.t 81) [(200, 356)]) [.t 82], none, []⟩,
  ⟨some 84, .call (.fn 200) [.t 80, .t 83], none, []⟩,
  ⟨some 17, .alloc [.int .i64 0], none, []⟩,
  ⟨none, .store 1 (.t 17) (.t 84), none, []⟩] [15, 54, 80, 81, 82, 83, 84]
def R_coombs_rounds_16 : AC := .ops false [⟨some 85, .mov (.t 9), none, []⟩,
  ⟨some 86, .load 1 true (.t 17), none, []⟩,
  ⟨some 87, .ia 1 (.t 85) (.t 86), none, []⟩,
  ⟨none, .store 1 (.t 87) (.c (.bool false)), none, []⟩] [85, 86, 87]
def R_coombs_rounds_17 : AC := .ops false [⟨some 88, .mov (.t 8), none, []⟩,
  ⟨some 89, .mkfn 205 [] [.t 17], none, []⟩,
  ⟨some 90, .call (.fn 121) [.t 88, .t 89], none, []⟩,
  ⟨some 8, .mov (.t 90), none, []⟩] [88, 89, 90]
def R_coombs_rounds_18 : AC := .ops false [⟨some 91, .load 1 true (.t 17), none, []⟩,
  ⟨some 92, .bslice 1 [.int .i64 0] 1 [(0, .t 91)], none, []⟩,
  ⟨some 93, .fa (.t 14) 5, none, []⟩,
  ⟨none, .store 1 (.t 93) (.t 92), none, []⟩] [17, 91, 92, 93]
def R_coombs_rounds_19 : AC := .ops true [⟨some 94, .mov (.t 7), none, []⟩,
  ⟨some 95, .mov (.t 7), none, []⟩,
  ⟨some 96, .nilchk (.t 95), none, [1]⟩,
  ⟨some 97, .fa (.t 96) 0, none, [2]⟩,
  ⟨some 98, .fa (.t 97) 1, none, [3]⟩,
  ⟨some 99, .load 1 true (.t 98), none, [4]⟩,
  ⟨some 100, .load 6 false (.t 14), none, []⟩,
  ⟨some 101, .bslice 6 [.lst 0 [] (some 0), .bool false, .lst 0 [] (some 0), .lst 0 [] (some 0), .lst 0 [] (some 0), .lst 0 [] (some 0)] 1 [(0, .t 100)], none, [6]⟩,
  ⟨some 102, .append 6 128 (.t 99) (.t 101), none, [5, 7]⟩,
  ⟨some 103, .nilchk (.t 94), none, [0, 0, 1, 2, 3, 4, 5, 6, 7, 8]⟩,
  ⟨some 104, .fa (.t 103) 0, none, [9, 0, 1, 2, 3, 4, 5, 6, 7, 8]⟩,
  ⟨some 105, .fa (.t 104) 1, none, [10, 0, 1, 2, 3, 4, 5, 6, 7, 8]⟩,
  ⟨none, .store 1 (.t 105) (.t 102), none, [11, 8, 8, 0, 1, 2, 3, 4, 5, 6, 7, 8]⟩] [14, 94, 95, 96, 97, 98, 99, 100, 101, 102, 103, 104, 105]
def L_coombs_rounds_2 : AC := (.block 3 (.seq R_coombs_rounds_8 (.seq R_coombs_rounds_9 (.seq (.seq R_coombs_rounds_10 (.seq R_coombs_rounds_11 (.cond (.t 54) (.seq R_coombs_rounds_12 (.seq R_coombs_rounds_13 (.seq R_coombs_rounds_14 .ret))) .skip))) (.seq R_coombs_rounds_15 (.seq R_coombs_rounds_16 (.seq R_coombs_rounds_17 (.seq R_coombs_rounds_18 R_coombs_rounds_19))))))))
def F_coombs_rounds : AFunc := { ntmps := 106, nargs := 3, kills := [[0], [1, 18, 19, 20, 21, 22], [23, 24, 25], [26], [], [29, 30], [10, 31, 32, 33], [34], [13, 27, 28, 29, 35, 36, 37, 38, 39, 40, 41], [12, 42, 43, 44, 45, 46], [11, 47, 48, 49, 50, 51, 52, 53], [16], [2, 3, 8, 9, 15, 54, 55, 56, 57, 58, 59, 60, 61, 62, 63], [14, 64, 65, 66, 67, 68, 69, 70, 71, 72, 73, 74, 75], [7, 76, 77, 78, 79], [15, 54, 80, 81, 82, 83, 84], [85, 86, 87], [88, 89, 90], [17, 91, 92, 93], [14, 94, 95, 96, 97, 98, 99, 100, 101, 102, 103, 104, 105]], results := [.cell 6 3 false], body := (.seq R_coombs_rounds_0 (.seq R_coombs_rounds_1 (.seq R_coombs_rounds_2 (.seq (.seq R_coombs_rounds_3 (.block 0 (.loop L_coombs_rounds_1))) (.block 2 (.loop L_coombs_rounds_2)))))) }
abbrev k_coombs_rounds : Nat := 124
-- suffrage/gregory.Quota
def R_gregory_Quota_0 : AC := .ops false [⟨some 2, .box (.t 0), none, []⟩,
  ⟨some 4, .mov (.c (.int .i64 0)), none, []⟩,
  ⟨some 5, .mov (.c (.int .i64 0)), none, []⟩] [0, 4, 5]
def R_gregory_Quota_1 : AC := .ops false [⟨some 8, .load 3 false (.t 2), none, []⟩,
  ⟨some 9, .call (.fn 19) [.t 8], none, []⟩,
  ⟨some 10, .bin .neq (.t 9) (.c (.int .i64 0)), none, []⟩,
  ⟨some 11, .mov (.t 10), none, []⟩,
  ⟨some 12, .fa (.t 2) 1, some (11, false), []⟩,
  ⟨some 13, .load 1 true (.t 12), some (11, false), []⟩,
  ⟨some 14, .bin .neq (.t 13) (.c (.int .u8 1)), some (11, false), []⟩,
  ⟨some 15, .pick (.t 11) (.c (.bool true)) (.t 14), none, []⟩] [8, 9, 10, 11, 12, 13, 14]
def R_gregory_Quota_2 : AC := .ops false [⟨some 4, .mov (.c (.int .i64 0)), none, []⟩,
  ⟨some 5, .mov (.c (.int .i64 8)), none, []⟩] [1, 2, 15]
def R_gregory_Quota_3 : AC := .ops false [⟨some 17, .load 3 false (.t 2), none, []⟩,
  ⟨some 18, .call (.fn 126) [.t 17], none, []⟩,
  ⟨some 16, .mov (.t 18), none, []⟩,
  ⟨some 19, .ext (.t 16) 0, none, []⟩,
  ⟨some 20, .ext (.t 16) 1, none, []⟩,
  ⟨some 6, .mov (.t 19), none, []⟩,
  ⟨some 7, .mov (.t 20), none, []⟩] [2, 7, 15, 16, 17, 18, 19, 20]
def R_gregory_Quota_4 : AC := .ops false [⟨some 21, .mov (.t 6), none, []⟩,
  ⟨some 22, .mov (.t 1), none, []⟩,
  ⟨some 23, .call (.fn 206) [.t 21, .t 22], none, []⟩,
  ⟨some 24, .ext (.t 23) 0, none, []⟩,
  ⟨some 25, .ext (.t 23) 1, none, []⟩,
  ⟨some 4, .mov (.t 24), none, []⟩,
  ⟨some 5, .mov (.t 25), none, []⟩] [1, 6, 21, 22, 23, 24, 25]
def F_gregory_Quota : AFunc := { ntmps := 26, nargs := 2, kills := [[0, 4, 5], [8, 9, 10, 11, 12, 13, 14], [1, 2, 15], [2, 7, 15, 16, 17, 18, 19, 20], [1, 6, 21, 22, 23, 24, 25]], results := [.t 4, .t 5], body := (.seq R_gregory_Quota_0 (.seq (.seq R_gregory_Quota_1 (.cond (.t 15) (.seq R_gregory_Quota_2 .ret) .skip)) (.seq R_gregory_Quota_3 (.seq R_gregory_Quota_4 .ret)))) }
abbrev k_gregory_Quota : Nat := 125
-- suffrage/profile.Marked
def R_profile_Marked_0 : AC := .ops false [⟨some 1, .box (.t 0), none, []⟩,
  ⟨some 2, .mov (.c (.int .i64 0)), none, []⟩,
  ⟨some 3, .mov (.c (.int .i64 0)), none, []⟩] [0, 2, 3]
def R_profile_Marked_1 : AC := .ops false [⟨some 4, .load 3 false (.t 1), none, []⟩,
  ⟨some 5, .call (.fn 207) [.t 4, .f 208], none, []⟩,
  ⟨some 6, .ext (.t 5) 0, none, []⟩,
  ⟨some 7, .ext (.t 5) 1, none, []⟩,
  ⟨some 2, .mov (.t 6), none, []⟩,
  ⟨some 3, .mov (.t 7), none, []⟩] [1, 4, 5, 6, 7]
def F_profile_Marked : AFunc := { ntmps := 8, nargs := 1, kills := [[0, 2, 3], [1, 4, 5, 6, 7]], results := [.t 2, .t 3], body := (.seq R_profile_Marked_0 (.seq R_profile_Marked_1 .ret)) }
abbrev k_profile_Marked : Nat := 126
-- (*suffrage/gregory.count).round
def R_gregory_count_round_0 : AC := .ops false [⟨some 12, .mov (.t 0), none, []⟩,
  ⟨some 13, .call (.fn 209) [.t 12], none, []⟩,
  ⟨some 11, .mov (.t 13), none, []⟩,
  ⟨some 14, .ext (.t 11) 0, none, []⟩,
  ⟨some 15, .ext (.t 11) 1, none, []⟩,
  ⟨some 2, .alloc [.lst 0 [] (some 0)], none, []⟩,
  ⟨none, .store 1 (.t 2) (.t 14), none, []⟩,
  ⟨some 3, .mov (.t 15), none, []⟩] [11, 12, 13, 14, 15]
def R_gregory_count_round_1 : AC := .ops false [⟨some 16, .mkfn 210 [] [.t 2], none, []⟩,
  ⟨some 4, .mov (.t 16), none, []⟩] [16]
def R_gregory_count_round_2 : AC := .ops true [⟨some 17, .mov (.t 0), none, []⟩,
  ⟨some 18, .call (.fn 211) [.t 17], none, [0]⟩,
  ⟨some 19, .load 1 true (.t 2), none, []⟩,
  ⟨some 20, .call (.fn 212) [.t 19], none, [2, 1]⟩,
  ⟨some 21, .mov (.t 3), none, []⟩,
  ⟨some 22, .bslice 1 [.int .i64 0] 1 [(0, .t 21)], none, [4]⟩,
  ⟨some 23, .call (.fn 212) [.t 22], none, [5, 3]⟩,
  ⟨some 24, .ia 3 (.t 23) (.c (.int .i64 0)), none, [6]⟩,
  ⟨some 25, .load 3 false (.t 24), none, [7]⟩,
  ⟨some 26, .build [.lst 0 [] (some 0), .bool false, .lst 0 [] (some 0), .lst 0 [] (some 0), .lst 0 [] (some 0), .lst 0 [] (some 0)] [(0, 1, .t 20), (1, 3, .t 25)], none, [3, 8]⟩,
  ⟨some 6, .alloc [.lst 0 [] (some 0), .bool false, .lst 0 [] (some 0), .lst 0 [] (some 0), .lst 0 [] (some 0), .lst 0 [] (some 0)], none, []⟩,
  ⟨some 5, .mov (.t 18), none, [1, 6, 0, 1, 10]⟩,
  ⟨none, .store 6 (.t 6) (.t 26), none, [10, 9, 11, 0, 1, 2, 3, 4, 5, 6, 7, 8, 9, 10, 11]⟩] [3, 17, 18, 19, 20, 21, 22, 23, 24, 25, 26]
def R_gregory_count_round_3 : AC := .ops false [⟨some 27, .mov (.t 5), none, []⟩,
  ⟨some 28, .mov (.t 4), none, []⟩,
  ⟨some 29, .call (.fn 115) [.t 27, .t 28], none, []⟩,
  ⟨some 7, .mov (.t 29), none, []⟩] [27, 28, 29]
def R_gregory_count_round_7 : AC := .ops true [⟨some 50, .mov (.t 5), none, []⟩,
  ⟨some 51, .len (.t 50), none, [0]⟩,
  ⟨some 52, .mov (.t 0), none, []⟩,
  ⟨some 53, .nilchk (.t 52), none, [2]⟩,
  ⟨some 54, .fa (.t 53) 3, none, [3]⟩,
  ⟨some 55, .load 1 true (.t 54), none, [4]⟩,
  ⟨some 56, .mov (.t 0), none, []⟩,
  ⟨some 57, .nilchk (.t 56), none, [6]⟩,
  ⟨some 58, .fa (.t 57) 0, none, [7]⟩,
  ⟨some 59, .load 1 true (.t 58), none, [8]⟩,
  ⟨some 60, .nilchk (.t 59), none, [9]⟩,
  ⟨some 61, .fa (.t 60) 0, none, [10]⟩,
  ⟨some 62, .fa (.t 61) 0, none, [11]⟩,
  ⟨some 63, .load 1 true (.t 62), none, [12]⟩,
  ⟨some 64, .len (.t 63), none, [13]⟩,
  ⟨some 65, .bin .sub (.t 55) (.t 64), none, [5, 14]⟩,
  ⟨some 66, .bin .leq (.t 51) (.t 65), none, [1, 15]⟩,
  ⟨some 49, .mov (.t 66), none, [16]⟩] [50, 51, 52, 53, 54, 55, 56, 57, 58, 59, 60, 61, 62, 63, 64, 65, 66]
def R_gregory_count_round_8 : AC := .ops false [⟨some 67, .mov (.t 5), none, []⟩,
  ⟨some 68, .len (.t 67), none, []⟩,
  ⟨some 69, .bin .gtr (.t 68) (.c (.int .i64 0)), none, []⟩] [2, 7, 49, 67, 68]
def R_gregory_count_round_10 : AC := .ops true [⟨some 72, .mov (.t 0), none, []⟩,
  ⟨some 73, .nilchk (.t 72), none, [0]⟩,
  ⟨some 74, .fa (.t 73) 0, none, [1]⟩,
  ⟨some 75, .load 1 true (.t 74), none, [2]⟩,
  ⟨some 76, .mov (.t 5), none, []⟩,
  ⟨some 77, .mov (.t 4), none, []⟩,
  ⟨some 78, .call (.fn 115) [.t 76, .t 77], none, [4, 5]⟩,
  ⟨some 79, .call (.fn 114) [.t 75, .t 78], none, [3, 6, 6]⟩,
  ⟨some 8, .mov (.t 79), none, [7, 7, 0, 1, 2, 3, 4, 5, 6, 7]⟩] [5, 69, 72, 73, 74, 75, 76, 77, 78, 79]
def R_gregory_count_round_11 : AC := .ops false [⟨some 80, .mov (.t 0), none, []⟩,
  ⟨some 81, .mov (.t 8), none, []⟩,
  ⟨some 82, .call (.fn 213) [.t 80, .t 81], none, []⟩] [80, 81, 82]
def R_gregory_count_round_12 : AC := .ops false [⟨some 83, .fa (.t 6) 4, none, []⟩,
  ⟨some 84, .load 1 true (.t 83), none, []⟩,
  ⟨some 85, .mov (.t 8), none, []⟩,
  ⟨some 86, .bslice 1 [.int .i64 0] 1 [(0, .t 85)], none, []⟩,
  ⟨some 87, .append 1 8 (.t 84) (.t 86), none, []⟩,
  ⟨some 88, .fa (.t 6) 4, none, []⟩,
  ⟨none, .store 1 (.t 88) (.t 87), none, []⟩] [8, 83, 84, 85, 86, 87, 88]
def R_gregory_count_round_9 : AC := .ops false [⟨some 70, .mov (.t 0), none, []⟩,
  ⟨some 71, .call (.fn 211) [.t 70], none, []⟩,
  ⟨some 5, .mov (.t 71), none, []⟩] [70, 71]
def L_gregory_count_round_1 : AC := (.seq (.seq R_gregory_count_round_8 (.cond (.t 69) .skip (.exit 1))) (.seq (.block 2 (.seq R_gregory_count_round_10 (.seq R_gregory_count_round_11 R_gregory_count_round_12))) R_gregory_count_round_9))
def R_gregory_count_round_13 : AC := .ops true [⟨some 90, .load 1 true (.t 2), none, []⟩,
  ⟨some 91, .mov (.t 7), none, []⟩,
  ⟨some 92, .ia 1 (.t 91) (.c (.int .i64 0)), none, [1]⟩,
  ⟨some 93, .load 1 true (.t 92), none, [2]⟩,
  ⟨some 94, .ia 1 (.t 90) (.t 93), none, [0, 3]⟩,
  ⟨some 95, .load 1 true (.t 94), none, [4]⟩,
  ⟨some 96, .mov (.t 0), none, []⟩,
  ⟨some 97, .nilchk (.t 96), none, [6]⟩,
  ⟨some 98, .fa (.t 97) 4, none, [7]⟩,
  ⟨some 99, .load 1 true (.t 98), none, [8]⟩,
  ⟨some 100, .bin .geq (.t 95) (.t 99), none, [5, 9]⟩,
  ⟨some 89, .mov (.t 100), none, [10]⟩] [49, 90, 91, 92, 93, 94, 95, 96, 97, 98, 99, 100]
def R_gregory_count_round_14 : AC := .ops false [⟨some 101, .mov (.t 0), none, []⟩,
  ⟨some 102, .nilchk (.t 101), none, []⟩,
  ⟨some 103, .fa (.t 102) 0, none, []⟩,
  ⟨some 104, .load 1 true (.t 103), none, []⟩,
  ⟨some 105, .mov (.t 7), none, []⟩,
  ⟨some 106, .call (.fn 114) [.t 104, .t 105], none, []⟩,
  ⟨some 9, .mov (.t 106), none, []⟩] [4, 5, 7, 89, 101, 102, 103, 104, 105, 106]
def R_gregory_count_round_15 : AC := .ops false [⟨some 107, .mov (.t 0), none, []⟩,
  ⟨some 108, .mov (.t 9), none, []⟩,
  ⟨some 109, .load 1 true (.t 2), none, []⟩,
  ⟨some 110, .mov (.t 9), none, []⟩,
  ⟨some 111, .ia 1 (.t 109) (.t 110), none, []⟩,
  ⟨some 112, .load 1 true (.t 111), none, []⟩,
  ⟨some 113, .call (.fn 214) [.t 107, .t 108, .t 112], none, []⟩] [2, 107, 108, 109, 110, 111, 112, 113]
def R_gregory_count_round_16 : AC := .ops false [⟨some 114, .mov (.t 0), none, []⟩,
  ⟨some 115, .mov (.t 9), none, []⟩,
  ⟨some 116, .call (.fn 213) [.t 114, .t 115], none, []⟩] [114, 115, 116]
def R_gregory_count_round_17 : AC := .ops false [⟨some 117, .mov (.t 9), none, []⟩,
  ⟨some 118, .bslice 1 [.int .i64 0] 1 [(0, .t 117)], none, []⟩,
  ⟨some 119, .fa (.t 6) 4, none, []⟩,
  ⟨none, .store 1 (.t 119) (.t 118), none, []⟩] [9, 117, 118, 119]
def R_gregory_count_round_4 : AC := .ops true [⟨some 30, .mov (.t 0), none, []⟩,
  ⟨some 31, .nilchk (.t 30), none, [0]⟩,
  ⟨some 32, .fa (.t 31) 0, none, [1]⟩,
  ⟨some 33, .load 1 true (.t 32), none, [2]⟩,
  ⟨some 34, .mov (.t 5), none, []⟩,
  ⟨some 35, .mov (.t 4), none, []⟩,
  ⟨some 36, .call (.fn 201) [.t 34, .t 35], none, [4, 5]⟩,
  ⟨some 37, .call (.fn 200) [.t 33, .t 36], none, [3, 6, 6]⟩,
  ⟨some 10, .mov (.t 37), none, [7, 7, 0, 1, 2, 3, 4, 5, 6, 7]⟩] [2, 4, 5, 7, 30, 31, 32, 33, 34, 35, 36, 37, 89]
def R_gregory_count_round_5 : AC := .ops false [⟨some 38, .mov (.t 0), none, []⟩,
  ⟨some 39, .nilchk (.t 38), none, []⟩,
  ⟨some 40, .fa (.t 39) 2, none, []⟩,
  ⟨some 41, .load 1 true (.t 40), none, []⟩,
  ⟨some 42, .mov (.t 10), none, []⟩,
  ⟨some 43, .build [.bool false] [], none, []⟩,
  ⟨some 44, .mkiface 295 (.t 43), none, []⟩,
  ⟨some 45, .ia 1 (.t 41) (.t 42), none, []⟩,
  ⟨none, .store 1 (.t 45) (.t 44), none, []⟩] [38, 39, 40, 41, 42, 43, 44, 45]
def R_gregory_count_round_6 : AC := .ops false [⟨some 46, .mov (.t 10), none, []⟩,
  ⟨some 47, .bslice 1 [.int .i64 0] 1 [(0, .t 46)], none, []⟩,
  ⟨some 48, .fa (.t 6) 5, none, []⟩,
  ⟨none, .store 1 (.t 48) (.t 47), none, []⟩] [10, 46, 47, 48]
def R_gregory_count_round_18 : AC := .ops true [⟨some 120, .mov (.t 0), none, []⟩,
  ⟨some 121, .nilchk (.t 120), none, [0]⟩,
  ⟨some 122, .fa (.t 121) 0, none, [1]⟩,
  ⟨some 123, .load 1 true (.t 122), none, [2]⟩,
  ⟨some 124, .mov (.t 0), none, []⟩,
  ⟨some 125, .nilchk (.t 124), none, [4]⟩,
  ⟨some 126, .fa (.t 125) 0, none, [5]⟩,
  ⟨some 127, .load 1 true (.t 126), none, [6]⟩,
  ⟨some 128, .nilchk (.t 127), none, [7]⟩,
  ⟨some 129, .fa (.t 128) 0, none, [8]⟩,
  ⟨some 130, .fa (.t 129) 1, none, [9]⟩,
  ⟨some 131, .load 1 true (.t 130), none, [10]⟩,
  ⟨some 132, .load 6 false (.t 6), none, []⟩,
  ⟨some 133, .bslice 6 [.lst 0 [] (some 0), .bool false, .lst 0 [] (some 0), .lst 0 [] (some 0), .lst 0 [] (some 0), .lst 0 [] (some 0)] 1 [(0, .t 132)], none, [12]⟩,
  ⟨some 134, .append 6 128 (.t 131) (.t 133), none, [11, 13]⟩,
  ⟨some 135, .nilchk (.t 123), none, [3, 0, 1, 2, 3, 4, 5, 6, 7, 8, 9, 10, 11, 12, 13, 14]⟩,
  ⟨some 136, .fa (.t 135) 0, none, [15, 0, 1, 2, 3, 4, 5, 6, 7, 8, 9, 10, 11, 12, 13, 14]⟩,
  ⟨some 137, .fa (.t 136) 1, none, [16, 0, 1, 2, 3, 4, 5, 6, 7, 8, 9, 10, 11, 12, 13, 14]⟩,
  ⟨none, .store 1 (.t 137) (.t 134), none, [17, 14, 14, 0, 1, 2, 3, 4, 5, 6, 7, 8, 9, 10, 11, 12, 13, 14]⟩] [0, 4, 5, 6, 69, 120, 121, 122, 123, 124, 125, 126, 127, 128, 129, 130, 131, 132, 133, 134, 135, 136, 137]
def F_gregory_count_round : AFunc := { ntmps := 138, nargs := 1, kills := [[11, 12, 13, 14, 15], [16], [3, 17, 18, 19, 20, 21, 22, 23, 24, 25, 26], [27, 28, 29], [2, 4, 5, 7, 30, 31, 32, 33, 34, 35, 36, 37, 89], [38, 39, 40, 41, 42, 43, 44, 45], [10, 46, 47, 48], [50, 51, 52, 53, 54, 55, 56, 57, 58, 59, 60, 61, 62, 63, 64, 65, 66], [2, 7, 49, 67, 68], [70, 71], [5, 69, 72, 73, 74, 75, 76, 77, 78, 79], [80, 81, 82], [8, 83, 84, 85, 86, 87, 88], [49, 90, 91, 92, 93, 94, 95, 96, 97, 98, 99, 100], [4, 5, 7, 89, 101, 102, 103, 104, 105, 106], [2, 107, 108, 109, 110, 111, 112, 113], [114, 115, 116], [9, 117, 118, 119], [0, 4, 5, 6, 69, 120, 121, 122, 123, 124, 125, 126, 127, 128, 129, 130, 131, 132, 133, 134, 135, 136, 137]], results := [], body := (.seq R_gregory_count_round_0 (.seq R_gregory_count_round_1 (.seq R_gregory_count_round_2 (.seq R_gregory_count_round_3 (.seq (.block 0 (.seq R_gregory_count_round_7 (.cond (.t 49) (.block 1 (.loop L_gregory_count_round_1)) (.seq R_gregory_count_round_13 (.cond (.t 89) (.seq R_gregory_count_round_14 (.seq R_gregory_count_round_15 (.seq R_gregory_count_round_16 R_gregory_count_round_17))) (.seq R_gregory_count_round_4 (.seq R_gregory_count_round_5 R_gregory_count_round_6))))))) R_gregory_count_round_18))))) }
abbrev k_gregory_count_round : Nat := 127
-- (*suffrage/meek.count).fills
def R_meek_count_fills_0 : AC := .ops false [⟨some 2, .mov (.c (.bool false)), none, []⟩] [2]
def R_meek_count_fills_1 : AC := .ops true [⟨some 3, .mov (.t 0), none, []⟩,
  ⟨some 4, .nilchk (.t 3), none, [0]⟩,
  ⟨some 5, .fa (.t 4) 7, none, [1]⟩,
  ⟨some 6, .load 1 true (.t 5), none, [2]⟩,
  ⟨some 7, .len (.t 6), none, [3]⟩,
  ⟨some 8, .mov (.t 0), none, []⟩,
  ⟨some 9, .nilchk (.t 8), none, [5]⟩,
  ⟨some 10, .fa (.t 9) 4, none, [6]⟩,
  ⟨some 11, .load 1 true (.t 10), none, [7]⟩,
  ⟨some 12, .mov (.t 0), none, []⟩,
  ⟨some 13, .nilchk (.t 12), none, [9]⟩,
  ⟨some 14, .fa (.t 13) 0, none, [10]⟩,
  ⟨some 15, .load 1 true (.t 14), none, [11]⟩,
  ⟨some 16, .nilchk (.t 15), none, [12]⟩,
  ⟨some 17, .fa (.t 16) 0, none, [13]⟩,
  ⟨some 18, .fa (.t 17) 0, none, [14]⟩,
  ⟨some 19, .load 1 true (.t 18), none, [15]⟩,
  ⟨some 20, .len (.t 19), none, [16]⟩,
  ⟨some 21, .bin .sub (.t 11) (.t 20), none, [8, 17]⟩,
  ⟨some 22, .bin .gtr (.t 7) (.t 21), none, [4, 18]⟩] [3, 4, 5, 6, 7, 8, 9, 10, 11, 12, 13, 14, 15, 16, 17, 18, 19, 20, 21]
def R_meek_count_fills_2 : AC := .ops false [⟨some 2, .mov (.c (.bool false)), none, []⟩] [0, 22]
def R_meek_count_fills_3 : AC := .ops false [⟨some 23, .mov (.t 0), none, []⟩,
  ⟨some 24, .nilchk (.t 23), none, []⟩,
  ⟨some 25, .fa (.t 24) 7, none, []⟩,
  ⟨some 26, .load 1 true (.t 25), none, []⟩,
  ⟨some 27, .len (.t 26), none, []⟩,
  ⟨some 28, .bin .gtr (.t 27) (.c (.int .i64 0)), none, []⟩] [22, 23, 24, 25, 26, 27]
def R_meek_count_fills_4 : AC := .ops false [⟨some 29, .mov (.t 0), none, []⟩,
  ⟨some 30, .mov (.t 0), none, []⟩,
  ⟨some 31, .nilchk (.t 30), none, []⟩,
  ⟨some 32, .fa (.t 31) 7, none, []⟩,
  ⟨some 33, .load 1 true (.t 32), none, []⟩,
  ⟨some 34, .mov (.t 0), none, []⟩,
  ⟨some 35, .mkfn 216 [.t 34] [], none, []⟩,
  ⟨some 36, .call (.fn 115) [.t 33, .t 35], none, []⟩,
  ⟨some 37, .call (.fn 215) [.t 29, .t 36], none, []⟩] [28, 29, 30, 31, 32, 33, 34, 35, 36, 37]
def L_meek_count_fills_1 : AC := (.seq (.seq R_meek_count_fills_3 (.cond (.t 28) .skip (.exit 0))) (.block 1 R_meek_count_fills_4))
def R_meek_count_fills_5 : AC := .ops false [⟨some 2, .mov (.c (.bool true)), none, []⟩] [0, 28]
def F_meek_count_fills : AFunc := { ntmps := 38, nargs := 1, kills := [[2], [3, 4, 5, 6, 7, 8, 9, 10, 11, 12, 13, 14, 15, 16, 17, 18, 19, 20, 21], [0, 22], [22, 23, 24, 25, 26, 27], [28, 29, 30, 31, 32, 33, 34, 35, 36, 37], [0, 28]], results := [.t 2], body := (.seq R_meek_count_fills_0 (.seq (.seq R_meek_count_fills_1 (.cond (.t 22) (.seq R_meek_count_fills_2 .ret) .skip)) (.seq (.block 0 (.loop L_meek_count_fills_1)) (.seq R_meek_count_fills_5 .ret)))) }
abbrev k_meek_count_fills : Nat := 128
-- (*suffrage/meek.count).reaches
def R_meek_count_reaches_0 : AC := .ops false [⟨some 2, .mov (.c (.bool false)), none, []⟩] [2]
def R_meek_count_reaches_1 : AC := .ops false [⟨some 4, .mov (.t 0), none, []⟩,
  ⟨some 5, .nilchk (.t 4), none, []⟩,
  ⟨some 6, .fa (.t 5) 7, none, []⟩,
  ⟨some 7, .load 1 true (.t 6), none, []⟩,
  ⟨some 8, .mov (.t 0), none, []⟩,
  ⟨some 9, .mkfn 216 [.t 8] [], none, []⟩,
  ⟨some 10, .call (.fn 115) [.t 7, .t 9], none, []⟩,
  ⟨some 3, .mov (.t 10), none, []⟩] [4, 5, 6, 7, 8, 9, 10]
def R_meek_count_reaches_2 : AC := .ops true [⟨some 11, .mov (.t 0), none, []⟩,
  ⟨some 12, .nilchk (.t 11), none, [0]⟩,
  ⟨some 13, .fa (.t 12) 9, none, [1]⟩,
  ⟨some 14, .load 1 true (.t 13), none, [2]⟩,
  ⟨some 15, .mov (.t 3), none, []⟩,
  ⟨some 16, .ia 1 (.t 15) (.c (.int .i64 0)), none, [4]⟩,
  ⟨some 17, .load 1 true (.t 16), none, [5]⟩,
  ⟨some 18, .ia 1 (.t 14) (.t 17), none, [3, 6]⟩,
  ⟨some 19, .load 1 true (.t 18), none, [7]⟩,
  ⟨some 20, .mov (.t 0), none, []⟩,
  ⟨some 21, .nilchk (.t 20), none, [9]⟩,
  ⟨some 22, .fa (.t 21) 11, none, [10]⟩,
  ⟨some 23, .load 1 true (.t 22), none, [11]⟩,
  ⟨some 24, .bin .lss (.t 19) (.t 23), none, [8, 12]⟩] [11, 12, 13, 14, 15, 16, 17, 18, 19, 20, 21, 22, 23]
def R_meek_count_reaches_3 : AC := .ops false [⟨some 2, .mov (.c (.bool false)), none, []⟩] [0, 3, 24]
def R_meek_count_reaches_4 : AC := .ops false [⟨some 25, .mov (.t 0), none, []⟩,
  ⟨some 26, .mov (.t 3), none, []⟩,
  ⟨some 27, .call (.fn 215) [.t 25, .t 26], none, []⟩] [0, 3, 24, 25, 26, 27]
def R_meek_count_reaches_5 : AC := .ops false [⟨some 2, .mov (.c (.bool true)), none, []⟩] []
def F_meek_count_reaches : AFunc := { ntmps := 28, nargs := 1, kills := [[2], [4, 5, 6, 7, 8, 9, 10], [11, 12, 13, 14, 15, 16, 17, 18, 19, 20, 21, 22, 23], [0, 3, 24], [0, 3, 24, 25, 26, 27], []], results := [.t 2], body := (.seq R_meek_count_reaches_0 (.seq R_meek_count_reaches_1 (.seq (.seq R_meek_count_reaches_2 (.cond (.t 24) (.seq R_meek_count_reaches_3 .ret) .skip)) (.seq R_meek_count_reaches_4 (.seq R_meek_count_reaches_5 .ret))))) }
abbrev k_meek_count_reaches : Nat := 129
-- (*suffrage/meek.count).drops
def R_meek_count_drops_0 : AC := .ops false [⟨some 1, .box (.t 0), none, []⟩,
  ⟨some 2, .mov (.c (.bool false)), none, []⟩] [0, 2]
def R_meek_count_drops_1 : AC := .ops false [⟨some 5, .load 1 true (.t 1), none, []⟩,
  ⟨some 6, .nilchk (.t 5), none, []⟩,
  ⟨some 7, .fa (.t 6) 0, none, []⟩,
  ⟨some 8, .load 1 true (.t 7), none, []⟩,
  ⟨some 9, .nilchk (.t 8), none, []⟩,
  ⟨some 10, .fa (.t 9) 0, none, []⟩,
  ⟨some 11, .fa (.t 10) 0, none, []⟩,
  ⟨some 12, .load 1 true (.t 11), none, []⟩,
  ⟨some 13, .mkfn 217 [] [.t 1], none, []⟩,
  ⟨some 14, .call (.fn 66) [.t 12, .t 13], none, []⟩,
  ⟨some 3, .mov (.t 14), none, []⟩] [5, 6, 7, 8, 9, 10, 11, 12, 13, 14]
def R_meek_count_drops_2 : AC := .ops false [⟨some 15, .mov (.t 3), none, []⟩,
  ⟨some 16, .mov (.t 15), none, []⟩,
  ⟨some 17, .load 1 true (.t 1), some (16, true), []⟩,
  ⟨some 18, .nilchk (.t 17), some (16, true), []⟩,
  ⟨some 19, .fa (.t 18) 8, some (16, true), []⟩,
  ⟨some 20, .load 1 true (.t 19), some (16, true), []⟩,
  ⟨some 21, .bin .lss (.t 20) (.c (.int .i64 200)), some (16, true), []⟩,
  ⟨some 22, .pick (.t 16) (.t 21) (.c (.bool false)), none, []⟩] [3, 15, 16, 17, 18, 19, 20, 21]
def R_meek_count_drops_3 : AC := .ops false [⟨some 2, .mov (.c (.bool false)), none, []⟩] [1, 22]
def R_meek_count_drops_4 : AC := .ops true [⟨some 23, .load 1 true (.t 1), none, []⟩,
  ⟨some 24, .nilchk (.t 23), none, [0]⟩,
  ⟨some 25, .fa (.t 24) 0, none, [1]⟩,
  ⟨some 26, .load 1 true (.t 25), none, [2]⟩,
  ⟨some 27, .load 1 true (.t 1), none, []⟩,
  ⟨some 28, .nilchk (.t 27), none, [4]⟩,
  ⟨some 29, .fa (.t 28) 7, none, [5]⟩,
  ⟨some 30, .load 1 true (.t 29), none, [6]⟩,
  ⟨some 31, .load 1 true (.t 1), none, []⟩,
  ⟨some 32, .mkfn 216 [.t 31] [], none, [8]⟩,
  ⟨some 33, .call (.fn 201) [.t 30, .t 32], none, [7, 9]⟩,
  ⟨some 34, .call (.fn 200) [.t 26, .t 33], none, [3, 10, 10]⟩,
  ⟨some 4, .mov (.t 34), none, [11, 11, 0, 1, 2, 3, 4, 5, 6, 7, 8, 9, 10, 11]⟩] [22, 23, 24, 25, 26, 27, 28, 29, 30, 31, 32, 33, 34]
def R_meek_count_drops_5 : AC := .ops false [⟨some 35, .load 1 true (.t 1), none, []⟩,
  ⟨some 36, .nilchk (.t 35), none, []⟩,
  ⟨some 37, .fa (.t 36) 6, none, []⟩,
  ⟨some 38, .load 1 true (.t 37), none, []⟩,
  ⟨some 39, .mov (.t 4), none, []⟩,
  ⟨some 40, .ia 1 (.t 38) (.t 39), none, []⟩,
  ⟨none, .store 1 (.t 40) (.c (.int .i64 0)), none, []⟩] [35, 36, 37, 38, 39, 40]
def R_meek_count_drops_6 : AC := .ops false [⟨some 41, .load 1 true (.t 1), none, []⟩,
  ⟨some 42, .mov (.t 4), none, []⟩,
  ⟨some 43, .bslice 1 [.int .i64 0] 1 [(0, .t 42)], none, []⟩,
  ⟨some 44, .nilchk (.t 41), none, []⟩,
  ⟨some 45, .fa (.t 44) 12, none, []⟩,
  ⟨some 46, .fa (.t 45) 5, none, []⟩,
  ⟨none, .store 1 (.t 46) (.t 43), none, []⟩] [41, 42, 43, 44, 45, 46]
def R_meek_count_drops_7 : AC := .ops false [⟨some 47, .load 1 true (.t 1), none, []⟩,
  ⟨some 48, .mov (.t 4), none, []⟩,
  ⟨some 49, .call (.fn 218) [.t 47, .t 48], none, []⟩] [1, 4, 47, 48, 49]
def R_meek_count_drops_8 : AC := .ops false [⟨some 2, .mov (.c (.bool true)), none, []⟩] []
def F_meek_count_drops : AFunc := { ntmps := 50, nargs := 1, kills := [[0, 2], [5, 6, 7, 8, 9, 10, 11, 12, 13, 14], [3, 15, 16, 17, 18, 19, 20, 21], [1, 22], [22, 23, 24, 25, 26, 27, 28, 29, 30, 31, 32, 33, 34], [35, 36, 37, 38, 39, 40], [41, 42, 43, 44, 45, 46], [1, 4, 47, 48, 49], []], results := [.t 2], body := (.seq R_meek_count_drops_0 (.seq R_meek_count_drops_1 (.seq (.seq R_meek_count_drops_2 (.cond (.t 22) (.seq R_meek_count_drops_3 .ret) .skip)) (.seq R_meek_count_drops_4 (.seq R_meek_count_drops_5 (.seq R_meek_count_drops_6 (.seq R_meek_count_drops_7 (.seq R_meek_count_drops_8 .ret)))))))) }
abbrev k_meek_count_drops : Nat := 130
-- (*suffrage/meek.count).keep
def R_meek_count_keep_0 : AC := .ops false [⟨some 2, .mov (.c (.bool false)), none, []⟩] [2]
def R_meek_count_keep_1 : AC := .ops false [⟨some 5, .mov (.t 0), none, []⟩,
  ⟨some 6, .nilchk (.t 5), none, []⟩,
  ⟨some 7, .fa (.t 6) 0, none, []⟩,
  ⟨some 8, .load 1 true (.t 7), none, []⟩,
  ⟨some 9, .nilchk (.t 8), none, []⟩,
  ⟨some 10, .fa (.t 9) 0, none, []⟩,
  ⟨some 11, .fa (.t 10) 0, none, []⟩,
  ⟨some 12, .load 1 true (.t 11), none, []⟩,
  ⟨some 13, .len (.t 12), none, []⟩,
  ⟨some 14, .mov (.c (.int .i64 0)), none, []⟩] [5, 6, 7, 8, 9, 10, 11]
def R_meek_count_keep_2 : AC := .ops false [⟨some 15, .bin .lss (.t 14) (.t 13), none, []⟩] []
def R_meek_count_keep_3 : AC := .ops false [⟨some 16, .ia 1 (.t 12) (.t 14), none, []⟩,
  ⟨some 17, .load 1 true (.t 16), none, []⟩,
  ⟨some 4, .mov (.t 17), none, []⟩] [15, 16, 17]
def R_meek_count_keep_4 : AC := .ops true [⟨some 18, .mov (.t 0), none, []⟩,
  ⟨some 19, .nilchk (.t 18), none, [0]⟩,
  ⟨some 20, .fa (.t 19) 9, none, [1]⟩,
  ⟨some 21, .load 1 true (.t 20), none, [2]⟩,
  ⟨some 22, .mov (.t 4), none, []⟩,
  ⟨some 23, .ia 1 (.t 21) (.t 22), none, [3, 4]⟩,
  ⟨some 24, .load 1 true (.t 23), none, [5]⟩,
  ⟨some 25, .mov (.t 0), none, []⟩,
  ⟨some 26, .nilchk (.t 25), none, [7]⟩,
  ⟨some 27, .fa (.t 26) 11, none, [8]⟩,
  ⟨some 28, .load 1 true (.t 27), none, [9]⟩,
  ⟨some 29, .bin .gtr (.t 24) (.t 28), none, [6, 10]⟩] [18, 19, 20, 21, 22, 23, 24, 25, 26, 27, 28]
def R_meek_count_keep_5 : AC := .ops true [⟨some 31, .mov (.t 0), none, []⟩,
  ⟨some 32, .nilchk (.t 31), none, [0]⟩,
  ⟨some 33, .fa (.t 32) 6, none, [1]⟩,
  ⟨some 34, .load 1 true (.t 33), none, [2]⟩,
  ⟨some 35, .mov (.t 4), none, []⟩,
  ⟨some 36, .mov (.t 0), none, []⟩,
  ⟨some 37, .nilchk (.t 36), none, [5]⟩,
  ⟨some 38, .fa (.t 37) 6, none, [6]⟩,
  ⟨some 39, .load 1 true (.t 38), none, [7]⟩,
  ⟨some 40, .mov (.t 4), none, []⟩,
  ⟨some 41, .ia 1 (.t 39) (.t 40), none, [8, 9]⟩,
  ⟨some 42, .load 1 true (.t 41), none, [10]⟩,
  ⟨some 43, .mov (.t 0), none, []⟩,
  ⟨some 44, .nilchk (.t 43), none, [12]⟩,
  ⟨some 45, .fa (.t 44) 9, none, [13]⟩,
  ⟨some 46, .load 1 true (.t 45), none, [14]⟩,
  ⟨some 47, .mov (.t 4), none, []⟩,
  ⟨some 48, .ia 1 (.t 46) (.t 47), none, [15, 16]⟩,
  ⟨some 49, .load 1 true (.t 48), none, [17]⟩,
  ⟨some 50, .mov (.t 0), none, []⟩,
  ⟨some 51, .nilchk (.t 50), none, [19]⟩,
  ⟨some 52, .fa (.t 51) 11, none, [20]⟩,
  ⟨some 53, .load 1 true (.t 52), none, [21]⟩,
  ⟨some 54, .call (.fn 219) [.t 42, .t 49, .t 53], none, [11, 18, 22]⟩,
  ⟨some 30, .mov (.t 54), none, [23]⟩,
  ⟨some 55, .ext (.t 30) 0, none, [24]⟩,
  ⟨some 56, .ext (.t 30) 1, none, [24]⟩,
  ⟨some 57, .ia 1 (.t 34) (.t 35), none, [3, 4, 0, 1, 2, 3, 4, 5, 6, 7, 8, 9, 10, 11, 12, 13, 14, 15, 16, 17, 18, 19, 20, 21, 22, 23, 24, 25]⟩,
  ⟨none, .store 1 (.t 57) (.t 55), none, [27, 25, 23, 0, 1, 2, 3, 4, 5, 6, 7, 8, 9, 10, 11, 12, 13, 14, 15, 16, 17, 18, 19, 20, 21, 22, 23, 24, 25]⟩] [4, 29, 30, 31, 32, 33, 34, 35, 36, 37, 38, 39, 40, 41, 42, 43, 44, 45, 46, 47, 48, 49, 50, 51, 52, 53, 54, 55, 56, 57]
def R_meek_count_keep_6 : AC := .ops false [⟨some 58, .bin .add (.t 14) (.c (.int .i64 1)), none, []⟩,
  ⟨some 14, .mov (.t 58), none, []⟩] [4, 29, 58]
def L_meek_count_keep_1 : AC := (.seq R_meek_count_keep_2 (.seq (.cond (.t 15) .skip (.exit 0)) (.seq (.block 1 (.seq R_meek_count_keep_3 (.seq R_meek_count_keep_4 (.cond (.t 29) R_meek_count_keep_5 .skip)))) R_meek_count_keep_6)))
def R_meek_count_keep_7 : AC := .ops false [⟨some 2, .mov (.c (.bool false)), none, []⟩] [0, 12, 13, 14, 15]
def F_meek_count_keep : AFunc := { ntmps := 59, nargs := 1, kills := [[2], [5, 6, 7, 8, 9, 10, 11], [], [15, 16, 17], [18, 19, 20, 21, 22, 23, 24, 25, 26, 27, 28], [4, 29, 30, 31, 32, 33, 34, 35, 36, 37, 38, 39, 40, 41, 42, 43, 44, 45, 46, 47, 48, 49, 50, 51, 52, 53, 54, 55, 56, 57], [4, 29, 58], [0, 12, 13, 14, 15]], results := [.t 2], body := (.seq R_meek_count_keep_0 (.seq (.seq R_meek_count_keep_1 (.block 0 (.loop L_meek_count_keep_1))) (.seq R_meek_count_keep_7 .ret))) }
abbrev k_meek_count_keep : Nat := 131
-- suffrage/phragmen.zeros
def R_phragmen_zeros_0 : AC := .ops false [⟨some 2, .mov (.c (.lst 0 [] (some 0))), none, []⟩] []
def R_phragmen_zeros_1 : AC := .ops false [⟨some 3, .mov (.t 0), none, []⟩,
  ⟨some 4, .mov (.c (.int .i64 0)), none, []⟩] [0]
def R_phragmen_zeros_2 : AC := .ops false [⟨some 5, .bin .lss (.t 4) (.t 3), none, []⟩] []
def R_phragmen_zeros_3 : AC := .ops false [⟨some 6, .mov (.t 2), none, []⟩,
  ⟨some 7, .call (.fn 31) [.c (.int .i64 0)], none, []⟩,
  ⟨some 8, .bslice 3 [.bool false, .lst 0 [] (some 0), .lst 0 [] (some 0)] 1 [(0, .t 7)], none, []⟩,
  ⟨some 9, .append 3 56 (.t 6) (.t 8), none, []⟩,
  ⟨some 2, .mov (.t 9), none, []⟩] [5, 6, 7, 8, 9]
def R_phragmen_zeros_4 : AC := .ops false [⟨some 10, .bin .add (.t 4) (.c (.int .i64 1)), none, []⟩,
  ⟨some 4, .mov (.t 10), none, []⟩] [10]
def L_phragmen_zeros_1 : AC := (.seq R_phragmen_zeros_2 (.seq (.cond (.t 5) .skip (.exit 0)) (.seq (.block 1 R_phragmen_zeros_3) R_phragmen_zeros_4)))
def R_phragmen_zeros_5 : AC := .ops false [⟨some 11, .mov (.t 2), none, []⟩,
  ⟨some 2, .mov (.t 11), none, []⟩] [3, 4, 5, 11]
def F_phragmen_zeros : AFunc := { ntmps := 12, nargs := 1, kills := [[], [0], [], [5, 6, 7, 8, 9], [10], [3, 4, 5, 11]], results := [.t 2], body := (.seq R_phragmen_zeros_0 (.seq (.seq R_phragmen_zeros_1 (.block 0 (.loop L_phragmen_zeros_1))) (.seq R_phragmen_zeros_5 .ret))) }
abbrev k_phragmen_zeros : Nat := 134
-- suffrage/profile.Many
def R_profile_Many_0 : AC := .ops false [⟨some 1, .box (.t 0), none, []⟩,
  ⟨some 2, .mov (.c (.int .i64 0)), none, []⟩,
  ⟨some 3, .mov (.c (.int .i64 0)), none, []⟩] [0, 2, 3]
def R_profile_Many_1 : AC := .ops false [⟨some 4, .load 3 false (.t 1), none, []⟩,
  ⟨some 5, .call (.fn 207) [.t 4, .f 224], none, []⟩,
  ⟨some 6, .ext (.t 5) 0, none, []⟩,
  ⟨some 7, .ext (.t 5) 1, none, []⟩,
  ⟨some 2, .mov (.t 6), none, []⟩,
  ⟨some 3, .mov (.t 7), none, []⟩] [1, 4, 5, 6, 7]
def F_profile_Many : AFunc := { ntmps := 8, nargs := 1, kills := [[0, 2, 3], [1, 4, 5, 6, 7]], results := [.t 2, .t 3], body := (.seq R_profile_Many_0 (.seq R_profile_Many_1 .ret)) }
abbrev k_profile_Many : Nat := 135
-- suffrage/phragmen.Count$1
def R_phragmen_Count_1_0 : AC := .ops false [⟨some 6, .alloc [.lst 0 [] (some 0), .bool false, .lst 0 [] (some 0), .lst 0 [] (some 0), .lst 0 [] (some 0), .lst 0 [] (some 0)], none, []⟩] []
def R_phragmen_Count_1_1 : AC := .ops true [⟨some 15, .fa (.t 0) 0, none, []⟩,
  ⟨some 16, .load 1 true (.t 15), none, [0]⟩,
  ⟨some 17, .call (.fn 134) [.t 16], none, [1]⟩,
  ⟨some 18, .load 1 true (.t 1), none, []⟩,
  ⟨some 19, .load 1 true (.t 2), none, []⟩,
  ⟨some 20, .bin .sub (.t 18) (.t 19), none, [3, 4]⟩,
  ⟨some 21, .call (.fn 31) [.t 20], none, [5, 2]⟩,
  ⟨some 22, .build [.lst 0 [] (some 0), .bool false, .lst 0 [] (some 0), .lst 0 [] (some 0), .lst 0 [] (some 0), .lst 0 [] (some 0)] [(0, 1, .t 17), (1, 3, .t 21)], none, [2, 6]⟩,
  ⟨some 7, .alloc [.lst 0 [] (some 0), .bool false, .lst 0 [] (some 0), .lst 0 [] (some 0), .lst 0 [] (some 0), .lst 0 [] (some 0)], none, []⟩,
  ⟨none, .store 6 (.t 7) (.t 22), none, [8, 7, 6, 0, 1, 2, 3, 4, 5, 6, 7, 8]⟩] [1, 2, 15, 16, 17, 18, 19, 20, 21, 22]
def R_phragmen_Count_1_2 : AC := .ops false [⟨some 23, .mkmap none, none, []⟩,
  ⟨some 8, .mov (.t 23), none, []⟩] [23]
def R_phragmen_Count_1_3 : AC := .ops false [⟨some 24, .load 1 true (.t 3), none, []⟩,
  ⟨some 25, .len (.t 24), none, []⟩,
  ⟨some 26, .mov (.c (.int .i64 0)), none, []⟩] []
def R_phragmen_Count_1_4 : AC := .ops false [⟨some 27, .bin .lss (.t 26) (.t 25), none, []⟩] []
def R_phragmen_Count_1_5 : AC := .ops false [⟨some 28, .ia 1 (.t 24) (.t 26), none, []⟩,
  ⟨some 29, .load 1 true (.t 28), none, []⟩,
  ⟨some 10, .mov (.t 29), none, []⟩] [27, 28, 29]
def R_phragmen_Count_1_6 : AC := .ops false [⟨some 31, .load 3 false (.t 0), none, []⟩,
  ⟨some 32, .load 1 true (.t 4), none, []⟩,
  ⟨some 33, .mov (.t 10), none, []⟩,
  ⟨some 34, .call (.fn 137) [.t 31, .t 32, .t 33], none, []⟩,
  ⟨some 30, .mov (.t 34), none, []⟩,
  ⟨some 35, .ext (.t 30) 0, none, []⟩,
  ⟨some 36, .ext (.t 30) 1, none, []⟩,
  ⟨some 37, .ext (.t 30) 2, none, []⟩,
  ⟨some 11, .alloc [.bool false, .lst 0 [] (some 0), .lst 0 [] (some 0)], none, []⟩,
  ⟨none, .store 3 (.t 11) (.t 35), none, []⟩,
  ⟨some 12, .mov (.t 36), none, []⟩,
  ⟨some 13, .mov (.t 37), none, []⟩] [13, 30, 31, 32, 33, 34, 35, 36, 37]
def R_phragmen_Count_1_7 : AC := .ops false [⟨some 38, .mov (.t 12), none, []⟩] [12]
def R_phragmen_Count_1_8 : AC := .ops true [⟨some 39, .mov (.t 8), none, []⟩,
  ⟨some 40, .mov (.t 10), none, []⟩,
  ⟨some 41, .fa (.t 7) 0, none, []⟩,
  ⟨some 42, .load 1 true (.t 41), none, [2]⟩,
  ⟨some 43, .mov (.t 10), none, []⟩,
  ⟨some 44, .load 3 false (.t 11), none, []⟩,
  ⟨some 45, .load 3 false (.t 11), none, []⟩,
  ⟨some 46, .call (.fn 70) [.t 45], none, [6]⟩,
  ⟨none, .mset 0 (.t 39) (.t 40) (.t 44), none, [0, 1, 5, 7, 0, 1, 5, 7]⟩,
  ⟨some 47, .ia 3 (.t 42) (.t 43), none, [3, 4, 0, 1, 2, 3, 4, 5, 6, 7, 8]⟩,
  ⟨none, .store 3 (.t 47) (.t 46), none, [9, 7, 8, 0, 1, 2, 3, 4, 5, 6, 7, 8]⟩] [10, 11, 38, 39, 40, 41, 42, 43, 44, 45, 46, 47]
def R_phragmen_Count_1_9 : AC := .ops false [⟨some 48, .bin .add (.t 26) (.c (.int .i64 1)), none, []⟩,
  ⟨some 26, .mov (.t 48), none, []⟩] [10, 11, 38, 48]
def L_phragmen_Count_1_1 : AC := (.seq R_phragmen_Count_1_4 (.seq (.cond (.t 27) .skip (.exit 0)) (.seq (.block 1 (.seq R_phragmen_Count_1_5 (.seq R_phragmen_Count_1_6 (.seq R_phragmen_Count_1_7 (.cond (.t 38) R_phragmen_Count_1_8 .skip))))) R_phragmen_Count_1_9)))
def R_phragmen_Count_1_10 : AC := .ops true [⟨some 49, .load 1 true (.t 5), none, []⟩,
  ⟨some 50, .load 1 true (.t 3), none, []⟩,
  ⟨some 51, .mov (.t 8), none, []⟩,
  ⟨some 52, .call (.fn 138) [.t 50, .t 51], none, [1, 2]⟩,
  ⟨some 53, .call (.fn 114) [.t 49, .t 52], none, [0, 3, 3]⟩,
  ⟨some 14, .alloc [.int .i64 0], none, []⟩,
  ⟨none, .store 1 (.t 14) (.t 53), none, [5, 4, 4, 0, 1, 2, 3, 4, 5]⟩] [8, 24, 25, 26, 27, 49, 50, 51, 52, 53]
def R_phragmen_Count_1_11 : AC := .ops false [⟨some 54, .load 3 false (.t 0), none, []⟩,
  ⟨some 55, .load 1 true (.t 4), none, []⟩,
  ⟨some 56, .load 1 true (.t 14), none, []⟩,
  ⟨some 57, .call (.fn 139) [.t 54, .t 55, .t 56], none, []⟩] [0, 4, 54, 55, 56, 57]
def R_phragmen_Count_1_12 : AC := .ops false [⟨some 58, .load 1 true (.t 3), none, []⟩,
  ⟨some 59, .mkfn 140 [] [.t 14], none, []⟩,
  ⟨some 60, .call (.fn 121) [.t 58, .t 59], none, []⟩,
  ⟨none, .store 1 (.t 3) (.t 60), none, []⟩] [3, 58, 59, 60]
def R_phragmen_Count_1_13 : AC := .ops true [⟨some 61, .load 1 true (.t 5), none, []⟩,
  ⟨some 62, .load 1 true (.t 5), none, []⟩,
  ⟨some 63, .nilchk (.t 62), none, [1]⟩,
  ⟨some 64, .fa (.t 63) 0, none, [2]⟩,
  ⟨some 65, .fa (.t 64) 0, none, [3]⟩,
  ⟨some 66, .load 1 true (.t 65), none, [4]⟩,
  ⟨some 67, .load 1 true (.t 14), none, []⟩,
  ⟨some 68, .bslice 1 [.int .i64 0] 1 [(0, .t 67)], none, [6]⟩,
  ⟨some 69, .append 1 8 (.t 66) (.t 68), none, [5, 7]⟩,
  ⟨some 70, .load 1 true (.t 14), none, []⟩,
  ⟨some 71, .bslice 1 [.int .i64 0] 1 [(0, .t 70)], none, [9]⟩,
  ⟨some 72, .nilchk (.t 61), none, [0, 0, 1, 2, 3, 4, 5, 6, 7, 8]⟩,
  ⟨some 73, .fa (.t 72) 0, none, [11, 0, 1, 2, 3, 4, 5, 6, 7, 8]⟩,
  ⟨some 74, .fa (.t 73) 0, none, [12, 0, 1, 2, 3, 4, 5, 6, 7, 8]⟩,
  ⟨none, .store 1 (.t 74) (.t 69), none, [13, 8, 8, 0, 1, 2, 3, 4, 5, 6, 7, 8]⟩,
  ⟨some 75, .fa (.t 7) 4, none, [0, 1, 2, 3, 4, 5, 6, 7, 8, 9, 10, 11, 12, 13, 14]⟩,
  ⟨none, .store 1 (.t 75) (.t 71), none, [15, 10, 14, 0, 1, 2, 3, 4, 5, 6, 7, 8, 9, 10, 11, 12, 13, 14]⟩] [5, 14, 61, 62, 63, 64, 65, 66, 67, 68, 69, 70, 71, 72, 73, 74, 75]
def R_phragmen_Count_1_14 : AC := .ops false [⟨some 76, .load 6 false (.t 7), none, []⟩,
  ⟨none, .store 6 (.t 6) (.t 76), none, []⟩] [7, 76]
def F_phragmen_Count_1 : AFunc := { ntmps := 77, nargs := 6, kills := [[], [1, 2, 15, 16, 17, 18, 19, 20, 21, 22], [23], [], [], [27, 28, 29], [13, 30, 31, 32, 33, 34, 35, 36, 37], [12], [10, 11, 38, 39, 40, 41, 42, 43, 44, 45, 46, 47], [10, 11, 38, 48], [8, 24, 25, 26, 27, 49, 50, 51, 52, 53], [0, 4, 54, 55, 56, 57], [3, 58, 59, 60], [5, 14, 61, 62, 63, 64, 65, 66, 67, 68, 69, 70, 71, 72, 73, 74, 75], [7, 76]], results := [.cell 6 6 false], body := (.seq R_phragmen_Count_1_0 (.seq R_phragmen_Count_1_1 (.seq R_phragmen_Count_1_2 (.seq (.seq R_phragmen_Count_1_3 (.block 0 (.loop L_phragmen_Count_1_1))) (.seq R_phragmen_Count_1_10 (.seq R_phragmen_Count_1_11 (.seq R_phragmen_Count_1_12 (.seq R_phragmen_Count_1_13 (.seq R_phragmen_Count_1_14 .ret))))))))) }
abbrev k_phragmen_Count_1 : Nat := 136
-- suffrage/phragmen.Cost
def R_phragmen_Cost_0 : AC := .ops false [⟨some 3, .box (.t 0), none, []⟩,
  ⟨some 6, .alloc [.bool false, .lst 0 [] (some 0), .lst 0 [] (some 0)], none, []⟩,
  ⟨some 7, .mov (.c (.bool false)), none, []⟩,
  ⟨some 8, .mov (.c (.int .i64 0)), none, []⟩] [0, 7, 8]
def R_phragmen_Cost_1 : AC := .ops false [⟨some 16, .load 3 false (.t 3), none, []⟩,
  ⟨some 17, .call (.fn 225) [.t 16], none, []⟩,
  ⟨some 18, .un .not (.t 17), none, []⟩,
  ⟨some 15, .mov (.t 18), none, []⟩] [16, 17, 18]
def R_phragmen_Cost_2 : AC := .ops false [⟨some 19, .load 3 false (.t 6), none, []⟩,
  ⟨none, .store 3 (.t 6) (.t 19), none, []⟩,
  ⟨some 7, .mov (.c (.bool false)), none, []⟩,
  ⟨some 8, .mov (.c (.int .i64 8)), none, []⟩] [1, 2, 3, 15, 19]
def R_phragmen_Cost_3 : AC := .ops false [⟨some 21, .mov (.t 2), none, []⟩,
  ⟨some 22, .bin .lss (.t 21) (.c (.int .i64 0)), none, []⟩,
  ⟨some 23, .mov (.t 22), none, []⟩,
  ⟨some 24, .mov (.t 2), some (23, false), []⟩,
  ⟨some 25, .fa (.t 3) 0, some (23, false), []⟩,
  ⟨some 26, .load 1 true (.t 25), some (23, false), []⟩,
  ⟨some 27, .bin .geq (.t 24) (.t 26), some (23, false), []⟩,
  ⟨some 28, .pick (.t 23) (.c (.bool true)) (.t 27), none, []⟩,
  ⟨some 29, .mov (.t 28), none, []⟩,
  ⟨some 30, .mov (.t 1), some (29, false), []⟩,
  ⟨some 31, .len (.t 30), some (29, false), []⟩,
  ⟨some 32, .fa (.t 3) 2, some (29, false), []⟩,
  ⟨some 33, .load 1 true (.t 32), some (29, false), []⟩,
  ⟨some 34, .len (.t 33), some (29, false), []⟩,
  ⟨some 35, .bin .neq (.t 31) (.t 34), some (29, false), []⟩,
  ⟨some 36, .pick (.t 29) (.c (.bool true)) (.t 35), none, []⟩,
  ⟨some 20, .mov (.t 36), none, []⟩] [15, 21, 22, 23, 24, 25, 26, 27, 28, 29, 30, 31, 32, 33, 34, 35, 36]
def R_phragmen_Cost_4 : AC := .ops false [⟨some 37, .load 3 false (.t 6), none, []⟩,
  ⟨none, .store 3 (.t 6) (.t 37), none, []⟩,
  ⟨some 7, .mov (.c (.bool false)), none, []⟩,
  ⟨some 8, .mov (.c (.int .i64 2)), none, []⟩] [1, 2, 3, 20, 37]
def R_phragmen_Cost_5 : AC := .ops false [⟨some 38, .call (.fn 31) [.c (.int .i64 1)], none, []⟩,
  ⟨some 9, .alloc [.bool false, .lst 0 [] (some 0), .lst 0 [] (some 0)], none, []⟩,
  ⟨none, .store 3 (.t 9) (.t 38), none, []⟩,
  ⟨some 10, .mov (.c (.int .i64 0)), none, []⟩] [20, 38]
def R_phragmen_Cost_6 : AC := .ops false [⟨some 39, .fa (.t 3) 2, none, []⟩,
  ⟨some 40, .load 1 true (.t 39), none, []⟩,
  ⟨some 41, .len (.t 40), none, []⟩,
  ⟨some 42, .mov (.c (.int .i64 0)), none, []⟩] [3, 39]
def R_phragmen_Cost_7 : AC := .ops false [⟨some 43, .bin .lss (.t 42) (.t 41), none, []⟩] []
def R_phragmen_Cost_8 : AC := .ops false [⟨some 44, .mov (.t 42), none, []⟩,
  ⟨some 45, .ia 2 (.t 40) (.t 42), none, []⟩,
  ⟨some 46, .load 2 false (.t 45), none, []⟩,
  ⟨some 12, .alloc [.lst 0 [] (some 0), .int .i64 0], none, []⟩,
  ⟨some 11, .mov (.t 44), none, []⟩,
  ⟨none, .store 2 (.t 12) (.t 46), none, []⟩] [43, 44, 45, 46]
def R_phragmen_Cost_9 : AC := .ops false [⟨some 47, .load 2 false (.t 12), none, []⟩,
  ⟨some 48, .mov (.t 2), none, []⟩,
  ⟨some 49, .call (.fn 226) [.t 47, .t 48], none, []⟩,
  ⟨some 50, .un .not (.t 49), none, []⟩] [47, 48, 49]
def R_phragmen_Cost_10 : AC := .ops true [⟨some 52, .fa (.t 12) 1, none, []⟩,
  ⟨some 53, .load 1 true (.t 52), none, [0]⟩,
  ⟨some 54, .call (.fn 31) [.t 53], none, [1]⟩,
  ⟨some 55, .mov (.t 1), none, []⟩,
  ⟨some 56, .mov (.t 11), none, []⟩,
  ⟨some 57, .ia 3 (.t 55) (.t 56), none, [3, 4]⟩,
  ⟨some 58, .load 3 false (.t 57), none, [5]⟩,
  ⟨some 59, .call (.fn 227) [.t 54, .t 58], none, [2, 6, 2]⟩,
  ⟨some 51, .mov (.t 59), none, [7]⟩,
  ⟨some 60, .ext (.t 51) 0, none, [8]⟩,
  ⟨some 61, .ext (.t 51) 1, none, [8]⟩,
  ⟨some 13, .alloc [.bool false, .lst 0 [] (some 0), .lst 0 [] (some 0)], none, []⟩,
  ⟨none, .store 3 (.t 13) (.t 60), none, [11, 9, 7, 0, 1, 2, 3, 4, 5, 6, 7, 8, 9, 11]⟩,
  ⟨some 14, .mov (.t 61), none, [10, 12, 0, 1, 2, 3, 4, 5, 6, 7, 8, 9, 10, 11, 12]⟩] [11, 50, 51, 52, 53, 54, 55, 56, 57, 58, 59, 60, 61]
def R_phragmen_Cost_11 : AC := .ops false [⟨some 62, .mov (.t 14), none, []⟩,
  ⟨some 63, .bin .neq (.t 62) (.c (.int .i64 0)), none, []⟩] [62]
def R_phragmen_Cost_12 : AC := .ops false [⟨some 64, .load 3 false (.t 6), none, []⟩,
  ⟨some 65, .mov (.t 14), none, []⟩,
  ⟨none, .store 3 (.t 6) (.t 64), none, []⟩,
  ⟨some 7, .mov (.c (.bool false)), none, []⟩,
  ⟨some 8, .mov (.t 65), none, []⟩] [1, 2, 9, 10, 12, 13, 14, 40, 41, 42, 63, 64, 65]
def R_phragmen_Cost_13 : AC := .ops false [⟨some 67, .load 3 false (.t 9), none, []⟩,
  ⟨some 68, .load 3 false (.t 13), none, []⟩,
  ⟨some 69, .call (.fn 228) [.t 67, .t 68], none, []⟩,
  ⟨some 66, .mov (.t 69), none, []⟩,
  ⟨some 70, .ext (.t 66) 0, none, []⟩,
  ⟨some 71, .ext (.t 66) 1, none, []⟩,
  ⟨none, .store 3 (.t 9) (.t 70), none, []⟩,
  ⟨some 14, .mov (.t 71), none, []⟩] [13, 63, 66, 67, 68, 69, 70, 71]
def R_phragmen_Cost_14 : AC := .ops false [⟨some 72, .mov (.t 14), none, []⟩,
  ⟨some 73, .bin .neq (.t 72) (.c (.int .i64 0)), none, []⟩] [72]
def R_phragmen_Cost_15 : AC := .ops false [⟨some 74, .load 3 false (.t 6), none, []⟩,
  ⟨some 75, .mov (.t 14), none, []⟩,
  ⟨none, .store 3 (.t 6) (.t 74), none, []⟩,
  ⟨some 7, .mov (.c (.bool false)), none, []⟩,
  ⟨some 8, .mov (.t 75), none, []⟩] [1, 2, 9, 10, 12, 14, 40, 41, 42, 73, 74, 75]
def R_phragmen_Cost_16 : AC := .ops false [⟨some 76, .mov (.t 10), none, []⟩,
  ⟨some 77, .fa (.t 12) 1, none, []⟩,
  ⟨some 78, .load 1 true (.t 77), none, []⟩,
  ⟨some 79, .bin .add (.t 76) (.t 78), none, []⟩,
  ⟨some 10, .mov (.t 79), none, []⟩] [12, 14, 73, 76, 77, 78, 79]
def R_phragmen_Cost_17 : AC := .ops false [⟨some 80, .bin .add (.t 42) (.c (.int .i64 1)), none, []⟩,
  ⟨some 42, .mov (.t 80), none, []⟩] [11, 12, 50, 80]
def L_phragmen_Cost_1 : AC := (.seq R_phragmen_Cost_7 (.seq (.cond (.t 43) .skip (.exit 1)) (.seq (.block 2 (.seq R_phragmen_Cost_8 (.seq (.seq R_phragmen_Cost_9 (.cond (.t 50) (.exit 2) .skip)) (.seq R_phragmen_Cost_10 (.seq (.seq R_phragmen_Cost_11 (.cond (.t 63) (.seq R_phragmen_Cost_12 .ret) .skip)) (.seq (.seq R_phragmen_Cost_13 (.seq R_phragmen_Cost_14 (.cond (.t 73) (.seq R_phragmen_Cost_15 .ret) .skip))) R_phragmen_Cost_16)))))) R_phragmen_Cost_17)))
def R_phragmen_Cost_18 : AC := .ops false [⟨some 81, .mov (.t 10), none, []⟩,
  ⟨some 82, .bin .eql (.t 81) (.c (.int .i64 0)), none, []⟩] [1, 2, 40, 41, 42, 43, 81]
def R_phragmen_Cost_19 : AC := .ops false [⟨some 83, .load 3 false (.t 6), none, []⟩,
  ⟨none, .store 3 (.t 6) (.t 83), none, []⟩,
  ⟨some 7, .mov (.c (.bool false)), none, []⟩,
  ⟨some 8, .mov (.c (.int .i64 0)), none, []⟩] [9, 10, 82, 83]
def R_phragmen_Cost_20 : AC := .ops true [⟨some 85, .load 3 false (.t 9), none, []⟩,
  ⟨some 86, .mov (.t 10), none, []⟩,
  ⟨some 87, .call (.fn 31) [.t 86], none, [1]⟩,
  ⟨some 88, .call (.fn 229) [.t 85, .t 87], none, [0, 2, 2]⟩,
  ⟨some 84, .mov (.t 88), none, [3]⟩,
  ⟨some 89, .ext (.t 84) 0, none, [4]⟩,
  ⟨some 90, .ext (.t 84) 1, none, [4]⟩,
  ⟨none, .store 3 (.t 6) (.t 89), none, [5, 3, 0, 1, 2, 3, 4, 5]⟩,
  ⟨some 8, .mov (.t 90), none, [6, 7, 0, 1, 2, 3, 4, 5, 6, 7]⟩] [9, 10, 82, 84, 85, 86, 87, 88, 89, 90]
def R_phragmen_Cost_21 : AC := .ops false [⟨some 91, .load 3 false (.t 6), none, []⟩,
  ⟨some 92, .mov (.t 8), none, []⟩,
  ⟨some 93, .bin .eql (.t 92) (.c (.int .i64 0)), none, []⟩,
  ⟨some 94, .mov (.t 8), none, []⟩,
  ⟨none, .store 3 (.t 6) (.t 91), none, []⟩,
  ⟨some 7, .mov (.t 93), none, []⟩,
  ⟨some 8, .mov (.t 94), none, []⟩] [91, 92, 93, 94]
def F_phragmen_Cost : AFunc := { ntmps := 95, nargs := 3, kills := [[0, 7, 8], [16, 17, 18], [1, 2, 3, 15, 19], [15, 21, 22, 23, 24, 25, 26, 27, 28, 29, 30, 31, 32, 33, 34, 35, 36], [1, 2, 3, 20, 37], [20, 38], [3, 39], [], [43, 44, 45, 46], [47, 48, 49], [11, 50, 51, 52, 53, 54, 55, 56, 57, 58, 59, 60, 61], [62], [1, 2, 9, 10, 12, 13, 14, 40, 41, 42, 63, 64, 65], [13, 63, 66, 67, 68, 69, 70, 71], [72], [1, 2, 9, 10, 12, 14, 40, 41, 42, 73, 74, 75], [12, 14, 73, 76, 77, 78, 79], [11, 12, 50, 80], [1, 2, 40, 41, 42, 43, 81], [9, 10, 82, 83], [9, 10, 82, 84, 85, 86, 87, 88, 89, 90], [91, 92, 93, 94]], results := [.cell 6 3 false, .t 7, .t 8], body := (.seq R_phragmen_Cost_0 (.seq (.block 0 (.seq R_phragmen_Cost_1 (.cond (.t 15) (.seq R_phragmen_Cost_2 .ret) (.seq R_phragmen_Cost_3 (.cond (.t 20) (.seq R_phragmen_Cost_4 .ret) .skip))))) (.seq R_phragmen_Cost_5 (.seq (.seq R_phragmen_Cost_6 (.block 1 (.loop L_phragmen_Cost_1))) (.seq (.seq R_phragmen_Cost_18 (.cond (.t 82) (.seq R_phragmen_Cost_19 .ret) .skip)) (.seq R_phragmen_Cost_20 (.seq R_phragmen_Cost_21 .ret))))))) }
abbrev k_phragmen_Cost : Nat := 137
-- suffrage/phragmen.cheapest
def R_phragmen_cheapest_0 : AC := .ops false [⟨some 3, .box (.t 1), none, []⟩,
  ⟨some 4, .mov (.c (.lst 0 [] (some 0))), none, []⟩] [1]
def R_phragmen_cheapest_1 : AC := .ops false [⟨some 8, .mkfn 230 [] [.t 3], none, []⟩,
  ⟨some 5, .mov (.t 8), none, []⟩] [8]
def R_phragmen_cheapest_2 : AC := .ops false [⟨some 9, .load 1 true (.t 3), none, []⟩,
  ⟨some 10, .no, none, []⟩] [3, 9]
def R_phragmen_cheapest_3 : AC := .ops false [⟨some 11, .no, none, []⟩,
  ⟨some 12, .ext (.t 11) 0, none, []⟩] [6, 11, 27]
def R_phragmen_cheapest_4 : AC := .ops false [⟨some 13, .no, none, []⟩,
  ⟨some 14, .ext (.t 13) 0, none, []⟩,
  ⟨some 6, .mov (.t 14), none, []⟩] [12, 13, 14]
def R_phragmen_cheapest_5 : AC := .ops false [⟨some 7, .mov (.c (.int .i64 (-1))), none, []⟩] []
def R_phragmen_cheapest_6 : AC := .ops false [⟨some 15, .mov (.t 4), none, []⟩,
  ⟨some 16, .len (.t 15), none, []⟩,
  ⟨some 17, .bin .gtr (.t 16) (.c (.int .i64 0)), none, []⟩] [15, 16]
def R_phragmen_cheapest_7 : AC := .ops false [⟨some 18, .mov (.t 5), none, []⟩,
  ⟨some 19, .mov (.t 6), none, []⟩,
  ⟨some 20, .mov (.t 4), none, []⟩,
  ⟨some 21, .ia 1 (.t 20) (.c (.int .i64 0)), none, []⟩,
  ⟨some 22, .load 1 true (.t 21), none, []⟩,
  ⟨some 23, .call (.dyn (.t 18)) [.t 19, .t 22], none, []⟩,
  ⟨some 7, .mov (.t 23), none, []⟩] [17, 18, 19, 20, 21, 22, 23]
def R_phragmen_cheapest_8 : AC := .ops false [⟨some 24, .mov (.t 7), none, []⟩,
  ⟨some 25, .bin .lss (.t 24) (.c (.int .i64 0)), none, []⟩] [17, 24]
def R_phragmen_cheapest_9 : AC := .ops false [⟨some 4, .mov (.c (.lst 0 [] (some 0))), none, []⟩] [25]
def R_phragmen_cheapest_10 : AC := .ops false [⟨some 26, .mov (.t 7), none, []⟩,
  ⟨some 27, .bin .leq (.t 26) (.c (.int .i64 0)), none, []⟩] [7, 25, 26]
def R_phragmen_cheapest_11 : AC := .ops false [⟨some 28, .mov (.t 4), none, []⟩,
  ⟨some 29, .mov (.t 6), none, []⟩,
  ⟨some 30, .bslice 1 [.int .i64 0] 1 [(0, .t 29)], none, []⟩,
  ⟨some 31, .append 1 8 (.t 28) (.t 30), none, []⟩,
  ⟨some 4, .mov (.t 31), none, []⟩] [6, 27, 28, 29, 30, 31]
def L_phragmen_cheapest_1 : AC := (.seq R_phragmen_cheapest_3 (.seq (.cond (.t 12) .skip (.exit 0)) (.block 1 (.seq R_phragmen_cheapest_4 (.seq R_phragmen_cheapest_5 (.seq (.seq R_phragmen_cheapest_6 (.cond (.t 17) R_phragmen_cheapest_7 .skip)) (.seq (.seq R_phragmen_cheapest_8 (.cond (.t 25) R_phragmen_cheapest_9 .skip)) (.seq R_phragmen_cheapest_10 (.cond (.t 27) R_phragmen_cheapest_11 .skip)))))))))
def R_phragmen_cheapest_12 : AC := .ops false [⟨some 32, .mov (.t 4), none, []⟩,
  ⟨some 33, .len (.t 32), none, []⟩,
  ⟨some 34, .bin .eql (.t 33) (.c (.int .i64 0)), none, []⟩] [5, 10, 12, 32, 33]
def R_phragmen_cheapest_13 : AC := .ops false [⟨some 35, .mov (.t 0), none, []⟩,
  ⟨some 4, .mov (.t 35), none, []⟩] [0, 34, 35]
def R_phragmen_cheapest_14 : AC := .ops false [⟨some 36, .mov (.t 4), none, []⟩,
  ⟨some 37, .call (.fn 27) [.t 36], none, []⟩] [0, 34, 36, 37]
def R_phragmen_cheapest_15 : AC := .ops false [⟨some 38, .mov (.t 4), none, []⟩,
  ⟨some 4, .mov (.t 38), none, []⟩] [38]
def F_phragmen_cheapest : AFunc := { ntmps := 39, nargs := 2, kills := [[1], [8], [3, 9], [6, 11, 27], [12, 13, 14], [], [15, 16], [17, 18, 19, 20, 21, 22, 23], [17, 24], [25], [7, 25, 26], [6, 27, 28, 29, 30, 31], [5, 10, 12, 32, 33], [0, 34, 35], [0, 34, 36, 37], [38]], results := [.t 4], body := (.seq R_phragmen_cheapest_0 (.seq R_phragmen_cheapest_1 (.seq (.seq R_phragmen_cheapest_2 (.block 0 (.loop L_phragmen_cheapest_1))) (.seq (.seq R_phragmen_cheapest_12 (.cond (.t 34) (.seq R_phragmen_cheapest_13 .ret) .skip)) (.seq R_phragmen_cheapest_14 (.seq R_phragmen_cheapest_15 .ret)))))) }
abbrev k_phragmen_cheapest : Nat := 138
-- suffrage/phragmen.elect
def R_phragmen_elect_0 : AC := .ops false [⟨some 3, .box (.t 0), none, []⟩] [0]
def R_phragmen_elect_1 : AC := .ops false [⟨some 12, .load 3 false (.t 3), none, []⟩,
  ⟨some 13, .mov (.t 1), none, []⟩,
  ⟨some 14, .mov (.t 2), none, []⟩,
  ⟨some 15, .call (.fn 137) [.t 12, .t 13, .t 14], none, []⟩,
  ⟨some 11, .mov (.t 15), none, []⟩,
  ⟨some 16, .ext (.t 11) 0, none, []⟩,
  ⟨some 17, .ext (.t 11) 1, none, []⟩,
  ⟨some 18, .ext (.t 11) 2, none, []⟩,
  ⟨some 6, .alloc [.bool false, .lst 0 [] (some 0), .lst 0 [] (some 0)], none, []⟩,
  ⟨none, .store 3 (.t 6) (.t 16), none, []⟩,
  ⟨some 7, .mov (.t 17), none, []⟩,
  ⟨some 8, .mov (.t 18), none, []⟩] [8, 11, 12, 13, 14, 15, 16, 17, 18]
def R_phragmen_elect_2 : AC := .ops false [⟨some 19, .fa (.t 3) 2, none, []⟩,
  ⟨some 20, .load 1 true (.t 19), none, []⟩,
  ⟨some 21, .len (.t 20), none, []⟩,
  ⟨some 22, .mov (.c (.int .i64 0)), none, []⟩] [3, 19]
def R_phragmen_elect_3 : AC := .ops false [⟨some 23, .bin .lss (.t 22) (.t 21), none, []⟩] []
def R_phragmen_elect_4 : AC := .ops false [⟨some 24, .mov (.t 22), none, []⟩,
  ⟨some 25, .ia 2 (.t 20) (.t 22), none, []⟩,
  ⟨some 26, .load 2 false (.t 25), none, []⟩,
  ⟨some 10, .alloc [.lst 0 [] (some 0), .int .i64 0], none, []⟩,
  ⟨some 9, .mov (.t 24), none, []⟩,
  ⟨none, .store 2 (.t 10) (.t 26), none, []⟩] [23, 24, 25, 26]
def R_phragmen_elect_5 : AC := .ops false [⟨some 27, .mov (.t 7), none, []⟩,
  ⟨some 28, .mov (.t 27), none, []⟩,
  ⟨some 29, .load 2 false (.t 10), some (28, true), []⟩,
  ⟨some 30, .mov (.t 2), some (28, true), []⟩,
  ⟨some 31, .call (.fn 226) [.t 29, .t 30], some (28, true), []⟩,
  ⟨some 32, .pick (.t 28) (.t 31) (.c (.bool false)), none, []⟩] [10, 27, 28, 29, 30, 31]
def R_phragmen_elect_6 : AC := .ops false [⟨some 33, .mov (.t 1), none, []⟩,
  ⟨some 34, .mov (.t 9), none, []⟩,
  ⟨some 35, .load 3 false (.t 6), none, []⟩,
  ⟨some 36, .call (.fn 70) [.t 35], none, []⟩,
  ⟨some 37, .ia 3 (.t 33) (.t 34), none, []⟩,
  ⟨none, .store 3 (.t 37) (.t 36), none, []⟩] [9, 32, 33, 34, 35, 36, 37]
def R_phragmen_elect_7 : AC := .ops false [⟨some 38, .bin .add (.t 22) (.c (.int .i64 1)), none, []⟩,
  ⟨some 22, .mov (.t 38), none, []⟩] [9, 32, 38]
def L_phragmen_elect_1 : AC := (.seq R_phragmen_elect_3 (.seq (.cond (.t 23) .skip (.exit 0)) (.seq (.block 1 (.seq R_phragmen_elect_4 (.seq R_phragmen_elect_5 (.cond (.t 32) R_phragmen_elect_6 .skip)))) R_phragmen_elect_7)))
def F_phragmen_elect : AFunc := { ntmps := 39, nargs := 3, kills := [[0], [8, 11, 12, 13, 14, 15, 16, 17, 18], [3, 19], [], [23, 24, 25, 26], [10, 27, 28, 29, 30, 31], [9, 32, 33, 34, 35, 36, 37], [9, 32, 38]], results := [], body := (.seq R_phragmen_elect_0 (.seq R_phragmen_elect_1 (.seq R_phragmen_elect_2 (.block 0 (.loop L_phragmen_elect_1))))) }
abbrev k_phragmen_elect : Nat := 139
-- suffrage/phragmen.Count$1$1
def R_phragmen_Count_1_1_0 : AC := .ops false [⟨some 3, .mov (.c (.bool false)), none, []⟩] [3]
def R_phragmen_Count_1_1_1 : AC := .ops false [⟨some 4, .mov (.t 0), none, []⟩,
  ⟨some 5, .load 1 true (.t 1), none, []⟩,
  ⟨some 6, .bin .eql (.t 4) (.t 5), none, []⟩,
  ⟨some 3, .mov (.t 6), none, []⟩] [0, 1, 4, 5, 6]
def F_phragmen_Count_1_1 : AFunc := { ntmps := 7, nargs := 2, kills := [[3], [0, 1, 4, 5, 6]], results := [.t 3], body := (.seq R_phragmen_Count_1_1_0 (.seq R_phragmen_Count_1_1_1 .ret)) }
abbrev k_phragmen_Count_1_1 : Nat := 140
-- suffrage/lists.count
def R_lists_count_0 : AC := .ops false [⟨some 4, .box (.t 0), none, []⟩,
  ⟨some 8, .alloc [.lst 0 [] (some 0), .lst 0 [] (some 0), .lst 0 [] (some 0)], none, []⟩,
  ⟨some 9, .mov (.c (.int .i64 0)), none, []⟩] [0, 9]
def R_lists_count_1 : AC := .ops false [⟨some 14, .load 3 false (.t 4), none, []⟩,
  ⟨some 15, .mov (.t 1), none, []⟩,
  ⟨some 16, .mov (.t 2), none, []⟩,
  ⟨some 17, .call (.fn 110) [.t 14, .c (.int .u8 2), .t 15, .c (.int .i64 10), .t 16], none, []⟩,
  ⟨some 10, .mov (.t 17), none, []⟩] [14, 15, 16, 17]
def R_lists_count_2 : AC := .ops false [⟨some 18, .mov (.t 10), none, []⟩,
  ⟨some 19, .bin .neq (.t 18) (.c (.int .i64 0)), none, []⟩] [18]
def R_lists_count_3 : AC := .ops false [⟨some 20, .build [.lst 0 [] (some 0), .lst 0 [] (some 0), .lst 0 [] (some 0)] [], none, []⟩,
  ⟨some 21, .mov (.t 10), none, []⟩,
  ⟨none, .store 3 (.t 8) (.t 20), none, []⟩,
  ⟨some 9, .mov (.t 21), none, []⟩] [1, 2, 3, 4, 10, 19, 20, 21]
def R_lists_count_4 : AC := .ops false [⟨some 22, .mov (.t 2), none, []⟩,
  ⟨some 23, .call (.fn 113) [.t 22], none, []⟩,
  ⟨some 11, .mov (.t 23), none, []⟩] [2, 10, 19, 22, 23]
def R_lists_count_5 : AC := .ops false [⟨some 25, .load 3 false (.t 4), none, []⟩,
  ⟨some 26, .call (.fn 231) [.t 25], none, []⟩,
  ⟨some 24, .mov (.t 26), none, []⟩,
  ⟨some 27, .ext (.t 24) 0, none, []⟩,
  ⟨some 28, .ext (.t 24) 1, none, []⟩,
  ⟨some 12, .mov (.t 27), none, []⟩,
  ⟨some 13, .mov (.t 28), none, []⟩] [4, 24, 25, 26, 27, 28]
def R_lists_count_6 : AC := .ops false [⟨some 29, .mov (.t 11), none, []⟩,
  ⟨some 30, .mov (.t 3), none, []⟩,
  ⟨some 31, .mov (.t 11), none, []⟩,
  ⟨some 32, .mov (.t 12), none, []⟩,
  ⟨some 33, .mov (.t 1), none, []⟩,
  ⟨some 34, .call (.dyn (.t 30)) [.t 31, .t 32, .t 33], none, []⟩,
  ⟨some 35, .nilchk (.t 29), none, []⟩,
  ⟨some 36, .fa (.t 35) 0, none, []⟩,
  ⟨some 37, .fa (.t 36) 0, none, []⟩,
  ⟨none, .store 1 (.t 37) (.t 34), none, []⟩] [1, 3, 29, 30, 31, 32, 33, 34, 35, 36, 37]
def R_lists_count_7 : AC := .ops true [⟨some 38, .mov (.t 11), none, []⟩,
  ⟨some 39, .mov (.t 12), none, []⟩,
  ⟨some 40, .call (.fn 118) [.t 39], none, [1]⟩,
  ⟨some 41, .mov (.t 13), none, []⟩,
  ⟨some 42, .call (.fn 31) [.t 41], none, [3, 2]⟩,
  ⟨some 43, .mov (.t 11), none, []⟩,
  ⟨some 44, .nilchk (.t 43), none, [5]⟩,
  ⟨some 45, .fa (.t 44) 0, none, [6]⟩,
  ⟨some 46, .fa (.t 45) 0, none, [7]⟩,
  ⟨some 47, .load 1 true (.t 46), none, [8]⟩,
  ⟨some 48, .call (.fn 35) [.t 47], none, [9, 4]⟩,
  ⟨some 49, .build [.lst 0 [] (some 0), .bool false, .lst 0 [] (some 0), .lst 0 [] (some 0), .lst 0 [] (some 0), .lst 0 [] (some 0)] [(0, 1, .t 40), (1, 3, .t 42), (4, 1, .t 48)], none, [2, 4, 10]⟩,
  ⟨some 50, .bslice 6 [.lst 0 [] (some 0), .bool false, .lst 0 [] (some 0), .lst 0 [] (some 0), .lst 0 [] (some 0), .lst 0 [] (some 0)] 1 [(0, .t 49)], none, [11]⟩,
  ⟨some 51, .nilchk (.t 38), none, [0, 0, 1, 2, 3, 4, 5, 6, 7, 8, 9, 10, 11, 12]⟩,
  ⟨some 52, .fa (.t 51) 0, none, [13, 0, 1, 2, 3, 4, 5, 6, 7, 8, 9, 10, 11, 12]⟩,
  ⟨some 53, .fa (.t 52) 1, none, [14, 0, 1, 2, 3, 4, 5, 6, 7, 8, 9, 10, 11, 12]⟩,
  ⟨none, .store 1 (.t 53) (.t 50), none, [15, 12, 10, 0, 1, 2, 3, 4, 5, 6, 7, 8, 9, 10, 11, 12]⟩] [12, 13, 38, 39, 40, 41, 42, 43, 44, 45, 46, 47, 48, 49, 50, 51, 52, 53]
def R_lists_count_8 : AC := .ops false [⟨some 54, .mov (.t 11), none, []⟩,
  ⟨some 55, .nilchk (.t 54), none, []⟩,
  ⟨some 56, .fa (.t 55) 0, none, []⟩,
  ⟨some 57, .load 3 false (.t 56), none, []⟩,
  ⟨none, .store 3 (.t 8) (.t 57), none, []⟩,
  ⟨some 9, .mov (.c (.int .i64 0)), none, []⟩] [11, 54, 55, 56, 57]
def F_lists_count : AFunc := { ntmps := 58, nargs := 4, kills := [[0, 9], [14, 15, 16, 17], [18], [1, 2, 3, 4, 10, 19, 20, 21], [2, 10, 19, 22, 23], [4, 24, 25, 26, 27, 28], [1, 3, 29, 30, 31, 32, 33, 34, 35, 36, 37], [12, 13, 38, 39, 40, 41, 42, 43, 44, 45, 46, 47, 48, 49, 50, 51, 52, 53], [11, 54, 55, 56, 57]], results := [.cell 8 3 false, .t 9], body := (.seq R_lists_count_0 (.seq (.seq R_lists_count_1 (.seq R_lists_count_2 (.cond (.t 19) (.seq R_lists_count_3 .ret) .skip))) (.seq R_lists_count_4 (.seq R_lists_count_5 (.seq R_lists_count_6 (.seq R_lists_count_7 (.seq R_lists_count_8 .ret))))))) }
abbrev k_lists_count : Nat := 141
-- suffrage/lists.DHondt$1
def R_lists_DHondt_1_0 : AC := .ops false [⟨some 2, .mov (.c (.int .i64 0)), none, []⟩] [2]
def R_lists_DHondt_1_1 : AC := .ops false [⟨some 3, .mov (.t 0), none, []⟩,
  ⟨some 4, .bin .add (.t 3) (.c (.int .i64 1)), none, []⟩,
  ⟨some 2, .mov (.t 4), none, []⟩] [0, 3, 4]
def F_lists_DHondt_1 : AFunc := { ntmps := 5, nargs := 1, kills := [[2], [0, 3, 4]], results := [.t 2], body := (.seq R_lists_DHondt_1_0 (.seq R_lists_DHondt_1_1 .ret)) }
abbrev k_lists_DHondt_1 : Nat := 142
-- (suffrage/lists.method).allocate
def R_lists_method_allocate_0 : AC := .ops false [⟨some 4, .box (.t 0), none, []⟩,
  ⟨some 6, .box (.t 2), none, []⟩,
  ⟨some 8, .mov (.c (.lst 0 [] (some 0))), none, []⟩] [0, 2]
def R_lists_method_allocate_1 : AC := .ops false [⟨some 12, .load 1 true (.t 6), none, []⟩,
  ⟨some 13, .len (.t 12), none, []⟩,
  ⟨some 14, .mkslice 1 8 [.int .i64 0] (.t 13) (.t 13), none, []⟩,
  ⟨some 9, .alloc [.lst 0 [] (some 0)], none, []⟩,
  ⟨none, .store 1 (.t 9) (.t 14), none, []⟩] [12, 13, 14]
def R_lists_method_allocate_2 : AC := .ops false [⟨some 15, .mov (.t 3), none, []⟩,
  ⟨some 16, .mov (.c (.int .i64 0)), none, []⟩] [3]
def R_lists_method_allocate_3 : AC := .ops false [⟨some 17, .bin .lss (.t 16) (.t 15), none, []⟩] []
def R_lists_method_allocate_4 : AC := .ops false [⟨some 18, .load 1 true (.t 6), none, []⟩,
  ⟨some 19, .len (.t 18), none, []⟩,
  ⟨some 20, .call (.fn 116) [.t 19], none, []⟩,
  ⟨some 21, .mkfn 233 [] [.t 6, .t 4, .t 9], none, []⟩,
  ⟨some 22, .call (.fn 232) [.t 20, .t 21, .f 234], none, []⟩,
  ⟨some 10, .mov (.t 22), none, []⟩] [17, 18, 19, 20, 21, 22]
def R_lists_method_allocate_5 : AC := .ops false [⟨some 23, .mov (.t 1), none, []⟩,
  ⟨some 24, .mov (.t 10), none, []⟩,
  ⟨some 25, .call (.fn 114) [.t 23, .t 24], none, []⟩,
  ⟨some 11, .mov (.t 25), none, []⟩] [10, 23, 24, 25]
def R_lists_method_allocate_6 : AC := .ops false [⟨some 26, .load 1 true (.t 9), none, []⟩,
  ⟨some 27, .mov (.t 11), none, []⟩,
  ⟨some 28, .ia 1 (.t 26) (.t 27), none, []⟩,
  ⟨some 29, .load 1 true (.t 28), none, []⟩,
  ⟨some 30, .bin .add (.t 29) (.c (.int .i64 1)), none, []⟩,
  ⟨some 31, .ia 1 (.t 26) (.t 27), none, []⟩,
  ⟨none, .store 1 (.t 31) (.t 30), none, []⟩] [26, 27, 28, 29, 30, 31]
def R_lists_method_allocate_7 : AC := .ops false [⟨some 32, .mov (.t 8), none, []⟩,
  ⟨some 33, .mov (.t 11), none, []⟩,
  ⟨some 34, .bslice 1 [.int .i64 0] 1 [(0, .t 33)], none, []⟩,
  ⟨some 35, .append 1 8 (.t 32) (.t 34), none, []⟩,
  ⟨some 8, .mov (.t 35), none, []⟩] [11, 32, 33, 34, 35]
def R_lists_method_allocate_8 : AC := .ops false [⟨some 36, .bin .add (.t 16) (.c (.int .i64 1)), none, []⟩,
  ⟨some 16, .mov (.t 36), none, []⟩] [36]
def L_lists_method_allocate_1 : AC := (.seq R_lists_method_allocate_3 (.seq (.cond (.t 17) .skip (.exit 0)) (.seq (.block 1 (.seq R_lists_method_allocate_4 (.seq R_lists_method_allocate_5 (.seq R_lists_method_allocate_6 R_lists_method_allocate_7)))) R_lists_method_allocate_8)))
def R_lists_method_allocate_9 : AC := .ops false [⟨some 37, .mov (.t 8), none, []⟩,
  ⟨some 8, .mov (.t 37), none, []⟩] [1, 4, 6, 9, 15, 16, 17, 37]
def F_lists_method_allocate : AFunc := { ntmps := 38, nargs := 4, kills := [[0, 2], [12, 13, 14], [3], [], [17, 18, 19, 20, 21, 22], [10, 23, 24, 25], [26, 27, 28, 29, 30, 31], [11, 32, 33, 34, 35], [36], [1, 4, 6, 9, 15, 16, 17, 37]], results := [.t 8], body := (.seq R_lists_method_allocate_0 (.seq R_lists_method_allocate_1 (.seq (.seq R_lists_method_allocate_2 (.block 0 (.loop L_lists_method_allocate_1))) (.seq R_lists_method_allocate_9 .ret)))) }
abbrev k_lists_method_allocate : Nat := 143
-- suffrage/lists.Sainte$1
def R_lists_Sainte_1_0 : AC := .ops false [⟨some 2, .mov (.c (.int .i64 0)), none, []⟩] [2]
def R_lists_Sainte_1_1 : AC := .ops false [⟨some 3, .mov (.t 0), none, []⟩,
  ⟨some 4, .bin .mul (.c (.int .i64 2)) (.t 3), none, []⟩,
  ⟨some 5, .bin .add (.t 4) (.c (.int .i64 1)), none, []⟩,
  ⟨some 2, .mov (.t 5), none, []⟩] [0, 3, 4, 5]
def F_lists_Sainte_1 : AFunc := { ntmps := 6, nargs := 1, kills := [[2], [0, 3, 4, 5]], results := [.t 2], body := (.seq R_lists_Sainte_1_0 (.seq R_lists_Sainte_1_1 .ret)) }
abbrev k_lists_Sainte_1 : Nat := 144
-- suffrage/lists.remainders
def R_lists_remainders_0 : AC := .ops false [⟨some 6, .mov (.c (.lst 0 [] (some 0))), none, []⟩] []
def R_lists_remainders_1 : AC := .ops false [⟨some 7, .mov (.c (.int .i64 0)), none, []⟩] []
def R_lists_remainders_2 : AC := .ops false [⟨some 15, .mov (.t 1), none, []⟩,
  ⟨some 16, .len (.t 15), none, []⟩,
  ⟨some 17, .mov (.c (.int .i64 0)), none, []⟩] []
def R_lists_remainders_3 : AC := .ops false [⟨some 18, .bin .lss (.t 17) (.t 16), none, []⟩] []
def R_lists_remainders_4 : AC := .ops false [⟨some 19, .ia 1 (.t 15) (.t 17), none, []⟩,
  ⟨some 20, .load 1 true (.t 19), none, []⟩,
  ⟨some 9, .mov (.t 20), none, []⟩] [18, 19, 20]
def R_lists_remainders_5 : AC := .ops false [⟨some 21, .mov (.t 7), none, []⟩,
  ⟨some 22, .mov (.t 9), none, []⟩,
  ⟨some 23, .bin .add (.t 21) (.t 22), none, []⟩,
  ⟨some 7, .mov (.t 23), none, []⟩] [9, 21, 22, 23]
def R_lists_remainders_6 : AC := .ops false [⟨some 24, .bin .add (.t 17) (.c (.int .i64 1)), none, []⟩,
  ⟨some 17, .mov (.t 24), none, []⟩] [24]
def L_lists_remainders_1 : AC := (.seq R_lists_remainders_3 (.seq (.cond (.t 18) .skip (.exit 0)) (.seq (.block 1 (.seq R_lists_remainders_4 R_lists_remainders_5)) R_lists_remainders_6)))
def R_lists_remainders_7 : AC := .ops false [⟨some 25, .mov (.t 1), none, []⟩,
  ⟨some 26, .len (.t 25), none, []⟩,
  ⟨some 27, .mkslice 1 8 [.int .i64 0] (.t 26) (.t 26), none, []⟩,
  ⟨some 10, .alloc [.lst 0 [] (some 0)], none, []⟩,
  ⟨none, .store 1 (.t 10) (.t 27), none, []⟩] [15, 16, 17, 18, 25, 26, 27]
def R_lists_remainders_8 : AC := .ops false [⟨some 28, .mov (.t 1), none, []⟩,
  ⟨some 29, .len (.t 28), none, []⟩,
  ⟨some 30, .mov (.c (.int .i64 0)), none, []⟩] []
def R_lists_remainders_9 : AC := .ops false [⟨some 31, .bin .lss (.t 30) (.t 29), none, []⟩] []
def R_lists_remainders_10 : AC := .ops false [⟨some 32, .mov (.t 30), none, []⟩,
  ⟨some 33, .ia 1 (.t 28) (.t 30), none, []⟩,
  ⟨some 34, .load 1 true (.t 33), none, []⟩,
  ⟨some 11, .mov (.t 32), none, []⟩,
  ⟨some 12, .mov (.t 34), none, []⟩] [31, 32, 33, 34]
def R_lists_remainders_11 : AC := .ops false [⟨some 35, .mov (.t 7), none, []⟩,
  ⟨some 36, .bin .gtr (.t 35) (.c (.int .i64 0)), none, []⟩] [35]
def R_lists_remainders_12 : AC := .ops false [⟨some 37, .mov (.t 6), none, []⟩,
  ⟨some 38, .mov (.t 11), none, []⟩,
  ⟨some 39, .bslice 1 [.int .i64 0] 1 [(0, .t 38)], none, []⟩,
  ⟨some 40, .mov (.t 12), none, []⟩,
  ⟨some 41, .mov (.t 2), none, []⟩,
  ⟨some 42, .bin .mul (.t 40) (.t 41), none, []⟩,
  ⟨some 43, .mov (.t 7), none, []⟩,
  ⟨some 44, .bin .quo (.t 42) (.t 43), none, []⟩,
  ⟨some 45, .call (.fn 235) [.t 39, .t 44], none, []⟩,
  ⟨some 46, .append 1 8 (.t 37) (.t 45), none, []⟩,
  ⟨some 6, .mov (.t 46), none, []⟩] [36, 37, 38, 39, 40, 41, 42, 43, 44, 45, 46]
def R_lists_remainders_13 : AC := .ops true [⟨some 47, .load 1 true (.t 10), none, []⟩,
  ⟨some 48, .mov (.t 11), none, []⟩,
  ⟨some 49, .mov (.t 12), none, []⟩,
  ⟨some 50, .mov (.t 2), none, []⟩,
  ⟨some 51, .bin .mul (.t 49) (.t 50), none, [2, 3]⟩,
  ⟨some 52, .mov (.t 7), none, []⟩,
  ⟨some 53, .bin .rem (.t 51) (.t 52), none, [4, 5]⟩,
  ⟨some 54, .ia 1 (.t 47) (.t 48), none, [0, 1, 0, 1, 2, 3, 4, 5, 6]⟩,
  ⟨none, .store 1 (.t 54) (.t 53), none, [7, 6, 0, 1, 2, 3, 4, 5, 6]⟩] [11, 12, 47, 48, 49, 50, 51, 52, 53, 54]
def R_lists_remainders_14 : AC := .ops false [⟨some 55, .bin .add (.t 30) (.c (.int .i64 1)), none, []⟩,
  ⟨some 30, .mov (.t 55), none, []⟩] [11, 12, 36, 55]
def L_lists_remainders_2 : AC := (.seq R_lists_remainders_9 (.seq (.cond (.t 31) .skip (.exit 2)) (.seq (.block 3 (.seq R_lists_remainders_10 (.seq R_lists_remainders_11 (.cond (.t 36) (.seq R_lists_remainders_12 R_lists_remainders_13) .skip)))) R_lists_remainders_14)))
def R_lists_remainders_15 : AC := .ops false [⟨some 13, .mov (.c (.lst 0 [] (some 0))), none, []⟩] [7, 28, 29, 30, 31]
def R_lists_remainders_16 : AC := .ops false [⟨some 56, .mov (.t 6), none, []⟩,
  ⟨some 57, .len (.t 56), none, []⟩,
  ⟨some 58, .mov (.t 2), none, []⟩,
  ⟨some 59, .bin .lss (.t 57) (.t 58), none, []⟩] [56, 57, 58]
def R_lists_remainders_17 : AC := .ops false [⟨some 60, .mov (.t 13), none, []⟩,
  ⟨some 61, .len (.t 60), none, []⟩,
  ⟨some 62, .bin .eql (.t 61) (.c (.int .i64 0)), none, []⟩] [59, 60, 61]
def R_lists_remainders_18 : AC := .ops false [⟨some 63, .mov (.t 1), none, []⟩,
  ⟨some 64, .len (.t 63), none, []⟩,
  ⟨some 65, .call (.fn 116) [.t 64], none, []⟩,
  ⟨some 13, .mov (.t 65), none, []⟩] [62, 63, 64, 65]
def R_lists_remainders_19 : AC := .ops false [⟨some 66, .mov (.t 0), none, []⟩,
  ⟨some 67, .mov (.t 13), none, []⟩,
  ⟨some 68, .mkfn 237 [] [.t 10], none, []⟩,
  ⟨some 69, .call (.fn 236) [.t 67, .t 68, .f 94], none, []⟩,
  ⟨some 70, .call (.fn 114) [.t 66, .t 69], none, []⟩,
  ⟨some 14, .alloc [.int .i64 0], none, []⟩,
  ⟨none, .store 1 (.t 14) (.t 70), none, []⟩] [62, 66, 67, 68, 69, 70]
def R_lists_remainders_20 : AC := .ops false [⟨some 71, .mov (.t 6), none, []⟩,
  ⟨some 72, .load 1 true (.t 14), none, []⟩,
  ⟨some 73, .bslice 1 [.int .i64 0] 1 [(0, .t 72)], none, []⟩,
  ⟨some 74, .append 1 8 (.t 71) (.t 73), none, []⟩,
  ⟨some 6, .mov (.t 74), none, []⟩] [71, 72, 73, 74]
def R_lists_remainders_21 : AC := .ops false [⟨some 75, .mov (.t 13), none, []⟩,
  ⟨some 76, .mkfn 238 [] [.t 14], none, []⟩,
  ⟨some 77, .call (.fn 121) [.t 75, .t 76], none, []⟩,
  ⟨some 13, .mov (.t 77), none, []⟩] [14, 75, 76, 77]
def L_lists_remainders_3 : AC := (.seq (.seq R_lists_remainders_16 (.cond (.t 59) .skip (.exit 4))) (.block 5 (.seq (.seq R_lists_remainders_17 (.cond (.t 62) R_lists_remainders_18 .skip)) (.seq R_lists_remainders_19 (.seq R_lists_remainders_20 R_lists_remainders_21)))))
def R_lists_remainders_22 : AC := .ops false [⟨some 78, .mov (.t 6), none, []⟩,
  ⟨some 6, .mov (.t 78), none, []⟩] [0, 1, 2, 10, 13, 59, 78]
def F_lists_remainders : AFunc := { ntmps := 79, nargs := 3, kills := [[], [], [], [], [18, 19, 20], [9, 21, 22, 23], [24], [15, 16, 17, 18, 25, 26, 27], [], [], [31, 32, 33, 34], [35], [36, 37, 38, 39, 40, 41, 42, 43, 44, 45, 46], [11, 12, 47, 48, 49, 50, 51, 52, 53, 54], [11, 12, 36, 55], [7, 28, 29, 30, 31], [56, 57, 58], [59, 60, 61], [62, 63, 64, 65], [62, 66, 67, 68, 69, 70], [71, 72, 73, 74], [14, 75, 76, 77], [0, 1, 2, 10, 13, 59, 78]], results := [.t 6], body := (.seq R_lists_remainders_0 (.seq R_lists_remainders_1 (.seq (.seq R_lists_remainders_2 (.block 0 (.loop L_lists_remainders_1))) (.seq R_lists_remainders_7 (.seq (.seq R_lists_remainders_8 (.block 2 (.loop L_lists_remainders_2))) (.seq R_lists_remainders_15 (.seq (.block 4 (.loop L_lists_remainders_3)) (.seq R_lists_remainders_22 .ret)))))))) }
abbrev k_lists_remainders : Nat := 145
-- slices.Collect[int]
def R_slices_Collect_0 : AC := .ops false [⟨some 2, .mov (.c (.lst 0 [] (some 0))), none, []⟩] [2]
def R_slices_Collect_1 : AC := .ops false [⟨some 3, .mov (.t 0), none, []⟩,
  ⟨some 4, .call (.fn 239) [.c (.lst 0 [] (some 0)), .t 3], none, []⟩,
  ⟨some 2, .mov (.t 4), none, []⟩] [0, 3, 4]
def F_slices_Collect : AFunc := { ntmps := 5, nargs := 1, kills := [[2], [0, 3, 4]], results := [.t 2], body := (.seq R_slices_Collect_0 (.seq R_slices_Collect_1 .ret)) }
abbrev k_slices_Collect : Nat := 146
-- slices.Values[[]int,int]$1
def R_slices_Values_2_0 : AC := .ops false [⟨some 5, .load 1 true (.t 1), none, []⟩,
  ⟨some 6, .len (.t 5), none, []⟩,
  ⟨some 7, .mov (.c (.int .i64 0)), none, []⟩] [1]
def R_slices_Values_2_1 : AC := .ops false [⟨some 8, .bin .lss (.t 7) (.t 6), none, []⟩] []
def R_slices_Values_2_2 : AC := .ops false [⟨some 9, .ia 1 (.t 5) (.t 7), none, []⟩,
  ⟨some 10, .load 1 true (.t 9), none, []⟩,
  ⟨some 4, .mov (.t 10), none, []⟩] [8, 9, 10]
def R_slices_Values_2_3 : AC := .ops false [⟨some 11, .mov (.t 0), none, []⟩,
  ⟨some 12, .mov (.t 4), none, []⟩,
  ⟨some 13, .call (.dyn (.t 11)) [.t 12], none, []⟩,
  ⟨some 14, .un .not (.t 13), none, []⟩] [4, 11, 12, 13]
def R_slices_Values_2_4 : AC := .ops false [⟨some 15, .bin .add (.t 7) (.c (.int .i64 1)), none, []⟩,
  ⟨some 7, .mov (.t 15), none, []⟩] [14, 15]
def L_slices_Values_2_1 : AC := (.seq R_slices_Values_2_1 (.seq (.cond (.t 8) .skip (.exit 0)) (.seq (.block 1 (.seq R_slices_Values_2_2 (.seq R_slices_Values_2_3 (.cond (.t 14) .ret .skip)))) R_slices_Values_2_4)))
def F_slices_Values_2 : AFunc := { ntmps := 16, nargs := 2, kills := [[1], [], [8, 9, 10], [4, 11, 12, 13], [14, 15]], results := [], body := (.seq R_slices_Values_2_0 (.block 0 (.loop L_slices_Values_2_1))) }
abbrev k_slices_Values_2 : Nat := 147
-- slices.IndexFunc[[]int,int]
def R_slices_IndexFunc_0 : AC := .ops false [⟨some 4, .mov (.c (.int .i64 0)), none, []⟩] [4]
def R_slices_IndexFunc_1 : AC := .ops false [⟨some 6, .mov (.t 0), none, []⟩,
  ⟨some 7, .len (.t 6), none, []⟩,
  ⟨some 8, .mov (.c (.int .i64 0)), none, []⟩] [6]
def R_slices_IndexFunc_2 : AC := .ops false [⟨some 9, .bin .lss (.t 8) (.t 7), none, []⟩] []
def R_slices_IndexFunc_3 : AC := .ops false [⟨some 10, .mov (.t 8), none, []⟩,
  ⟨some 5, .mov (.t 10), none, []⟩] [9, 10]
def R_slices_IndexFunc_4 : AC := .ops false [⟨some 11, .mov (.t 1), none, []⟩,
  ⟨some 12, .mov (.t 0), none, []⟩,
  ⟨some 13, .mov (.t 5), none, []⟩,
  ⟨some 14, .ia 1 (.t 12) (.t 13), none, []⟩,
  ⟨some 15, .load 1 true (.t 14), none, []⟩,
  ⟨some 16, .call (.dyn (.t 11)) [.t 15], none, []⟩] [11, 12, 13, 14, 15]
def R_slices_IndexFunc_5 : AC := .ops false [⟨some 17, .mov (.t 5), none, []⟩,
  ⟨some 4, .mov (.t 17), none, []⟩] [0, 1, 5, 7, 8, 16, 17]
def R_slices_IndexFunc_6 : AC := .ops false [⟨some 18, .bin .add (.t 8) (.c (.int .i64 1)), none, []⟩,
  ⟨some 8, .mov (.t 18), none, []⟩] [5, 16, 18]
def L_slices_IndexFunc_1 : AC := (.seq R_slices_IndexFunc_2 (.seq (.cond (.t 9) .skip (.exit 0)) (.seq (.block 1 (.seq R_slices_IndexFunc_3 (.seq R_slices_IndexFunc_4 (.cond (.t 16) (.seq R_slices_IndexFunc_5 .ret) .skip)))) R_slices_IndexFunc_6)))
def R_slices_IndexFunc_7 : AC := .ops false [⟨some 4, .mov (.c (.int .i64 (-1))), none, []⟩] [0, 1, 7, 8, 9]
def F_slices_IndexFunc : AFunc := { ntmps := 19, nargs := 2, kills := [[4], [6], [], [9, 10], [11, 12, 13, 14, 15], [0, 1, 5, 7, 8, 16, 17], [5, 16, 18], [0, 1, 7, 8, 9]], results := [.t 4], body := (.seq R_slices_IndexFunc_0 (.seq (.seq R_slices_IndexFunc_1 (.block 0 (.loop L_slices_IndexFunc_1))) (.seq R_slices_IndexFunc_7 .ret))) }
abbrev k_slices_IndexFunc : Nat := 148
-- slices.Clone[[]uint32,uint32]
def R_slices_Clone_5_0 : AC := .ops false [⟨some 2, .mov (.c (.lst 0 [] (some 0))), none, []⟩] [2]
def R_slices_Clone_5_1 : AC := .ops false [⟨some 3, .mov (.t 0), none, []⟩,
  ⟨some 4, .isnil 0 false (.t 3), none, []⟩] [3]
def R_slices_Clone_5_2 : AC := .ops false [⟨some 2, .mov (.c (.lst 0 [] (some 0))), none, []⟩] [0, 4]
def R_slices_Clone_5_3 : AC := .ops false [⟨some 5, .bslice 1 [.int .u32 0] 0 [], none, []⟩,
  ⟨some 6, .mov (.t 0), none, []⟩,
  ⟨some 7, .append 1 4 (.t 5) (.t 6), none, []⟩,
  ⟨some 2, .mov (.t 7), none, []⟩] [0, 4, 5, 6, 7]
def F_slices_Clone_5 : AFunc := { ntmps := 8, nargs := 1, kills := [[2], [3], [0, 4], [0, 4, 5, 6, 7]], results := [.t 2], body := (.seq R_slices_Clone_5_0 (.seq (.seq R_slices_Clone_5_1 (.cond (.t 4) (.seq R_slices_Clone_5_2 .ret) .skip)) (.seq R_slices_Clone_5_3 .ret))) }
abbrev k_slices_Clone_5 : Nat := 149
-- slices.insertionSortOrdered[int]
def R_slices_insertionSortOrdered_0 : AC := .ops false [⟨some 8, .mov (.t 1), none, []⟩,
  ⟨some 9, .bin .add (.t 8) (.c (.int .i64 1)), none, []⟩,
  ⟨some 6, .mov (.t 9), none, []⟩] [8, 9]
def R_slices_insertionSortOrdered_1 : AC := .ops false [⟨some 10, .mov (.t 6), none, []⟩,
  ⟨some 11, .mov (.t 2), none, []⟩,
  ⟨some 12, .bin .lss (.t 10) (.t 11), none, []⟩] [10, 11]
def R_slices_insertionSortOrdered_3 : AC := .ops false [⟨some 15, .mov (.t 6), none, []⟩,
  ⟨some 7, .mov (.t 15), none, []⟩] [12, 15]
def R_slices_insertionSortOrdered_4 : AC := .ops true [⟨some 16, .mov (.t 7), none, []⟩,
  ⟨some 17, .mov (.t 1), none, []⟩,
  ⟨some 18, .bin .gtr (.t 16) (.t 17), none, [0, 1]⟩,
  ⟨some 19, .mov (.t 18), none, [2]⟩,
  ⟨some 20, .mov (.t 0), some (19, true), [3]⟩,
  ⟨some 21, .mov (.t 7), some (19, true), [3]⟩,
  ⟨some 22, .ia 1 (.t 20) (.t 21), some (19, true), [4, 5, 3]⟩,
  ⟨some 23, .load 1 true (.t 22), some (19, true), [6, 3]⟩,
  ⟨some 24, .mov (.t 0), some (19, true), [3]⟩,
  ⟨some 25, .mov (.t 7), some (19, true), [3]⟩,
  ⟨some 26, .bin .sub (.t 25) (.c (.int .i64 1)), some (19, true), [9, 3]⟩,
  ⟨some 27, .ia 1 (.t 24) (.t 26), some (19, true), [8, 10, 3]⟩,
  ⟨some 28, .load 1 true (.t 27), some (19, true), [11, 3]⟩,
  ⟨some 29, .call (.fn 156) [.t 23, .t 28], some (19, true), [7, 12, 3, 3]⟩,
  ⟨some 30, .pick (.t 19) (.t 29) (.c (.bool false)), none, [3, 13]⟩] [16, 17, 18, 19, 20, 21, 22, 23, 24, 25, 26, 27, 28, 29]
def R_slices_insertionSortOrdered_6 : AC := .ops true [⟨some 33, .mov (.t 0), none, []⟩,
  ⟨some 34, .mov (.t 7), none, []⟩,
  ⟨some 35, .mov (.t 0), none, []⟩,
  ⟨some 36, .mov (.t 7), none, []⟩,
  ⟨some 37, .bin .sub (.t 36) (.c (.int .i64 1)), none, [3]⟩,
  ⟨some 38, .mov (.t 0), none, []⟩,
  ⟨some 39, .mov (.t 7), none, []⟩,
  ⟨some 40, .bin .sub (.t 39) (.c (.int .i64 1)), none, [6]⟩,
  ⟨some 41, .ia 1 (.t 38) (.t 40), none, [5, 7]⟩,
  ⟨some 42, .load 1 true (.t 41), none, [8]⟩,
  ⟨some 43, .mov (.t 0), none, []⟩,
  ⟨some 44, .mov (.t 7), none, []⟩,
  ⟨some 45, .ia 1 (.t 43) (.t 44), none, [10, 11]⟩,
  ⟨some 46, .load 1 true (.t 45), none, [12]⟩,
  ⟨some 47, .ia 1 (.t 33) (.t 34), none, [0, 1, 0, 1, 5, 6, 7, 8, 9, 13]⟩,
  ⟨none, .store 1 (.t 47) (.t 42), none, [14, 9, 0, 1, 5, 6, 7, 8, 9, 13]⟩,
  ⟨some 48, .ia 1 (.t 35) (.t 37), none, [2, 4, 0, 1, 2, 3, 4, 5, 6, 7, 8, 9, 10, 11, 12, 13, 14, 15]⟩,
  ⟨none, .store 1 (.t 48) (.t 46), none, [16, 13, 15, 0, 1, 2, 3, 4, 5, 6, 7, 8, 9, 10, 11, 12, 13, 14, 15]⟩] [30, 33, 34, 35, 36, 37, 38, 39, 40, 41, 42, 43, 44, 45, 46, 47, 48]
def R_slices_insertionSortOrdered_5 : AC := .ops false [⟨some 31, .mov (.t 7), none, []⟩,
  ⟨some 32, .bin .sub (.t 31) (.c (.int .i64 1)), none, []⟩,
  ⟨some 7, .mov (.t 32), none, []⟩] [31, 32]
def L_slices_insertionSortOrdered_1 : AC := (.seq (.seq R_slices_insertionSortOrdered_4 (.cond (.t 30) .skip (.exit 2))) (.seq (.block 3 R_slices_insertionSortOrdered_6) R_slices_insertionSortOrdered_5))
def R_slices_insertionSortOrdered_2 : AC := .ops false [⟨some 13, .mov (.t 6), none, []⟩,
  ⟨some 14, .bin .add (.t 13) (.c (.int .i64 1)), none, []⟩,
  ⟨some 6, .mov (.t 14), none, []⟩] [7, 13, 14, 30]
def L_slices_insertionSortOrdered_2 : AC := (.seq (.seq R_slices_insertionSortOrdered_1 (.cond (.t 12) .skip (.exit 0))) (.seq (.block 1 (.seq R_slices_insertionSortOrdered_3 (.block 2 (.loop L_slices_insertionSortOrdered_1)))) R_slices_insertionSortOrdered_2))
def F_slices_insertionSortOrdered : AFunc := { ntmps := 49, nargs := 3, kills := [[8, 9], [10, 11], [7, 13, 14, 30], [12, 15], [16, 17, 18, 19, 20, 21, 22, 23, 24, 25, 26, 27, 28, 29], [31, 32], [30, 33, 34, 35, 36, 37, 38, 39, 40, 41, 42, 43, 44, 45, 46, 47, 48]], results := [], body := (.seq R_slices_insertionSortOrdered_0 (.block 0 (.loop L_slices_insertionSortOrdered_2))) }
abbrev k_slices_insertionSortOrdered : Nat := 150
-- slices.heapSortOrdered[int]
def R_slices_heapSortOrdered_0 : AC := .ops false [⟨some 11, .mov (.t 1), none, []⟩,
  ⟨some 6, .mov (.t 11), none, []⟩] [11]
def R_slices_heapSortOrdered_1 : AC := .ops false [⟨some 7, .mov (.c (.int .i64 0)), none, []⟩] []
def R_slices_heapSortOrdered_2 : AC := .ops false [⟨some 12, .mov (.t 2), none, []⟩,
  ⟨some 13, .mov (.t 1), none, []⟩,
  ⟨some 14, .bin .sub (.t 12) (.t 13), none, []⟩,
  ⟨some 8, .mov (.t 14), none, []⟩] [1, 2, 12, 13, 14]
def R_slices_heapSortOrdered_3 : AC := .ops false [⟨some 15, .mov (.t 8), none, []⟩,
  ⟨some 16, .bin .sub (.t 15) (.c (.int .i64 1)), none, []⟩,
  ⟨some 17, .bin .quo (.t 16) (.c (.int .i64 2)), none, []⟩,
  ⟨some 9, .mov (.t 17), none, []⟩] [15, 16, 17]
def R_slices_heapSortOrdered_4 : AC := .ops false [⟨some 18, .mov (.t 9), none, []⟩,
  ⟨some 19, .bin .geq (.t 18) (.c (.int .i64 0)), none, []⟩] [18]
def R_slices_heapSortOrdered_6 : AC := .ops false [⟨some 22, .mov (.t 0), none, []⟩,
  ⟨some 23, .mov (.t 9), none, []⟩,
  ⟨some 24, .mov (.t 8), none, []⟩,
  ⟨some 25, .mov (.t 6), none, []⟩,
  ⟨some 26, .call (.fn 240) [.t 22, .t 23, .t 24, .t 25], none, []⟩] [19, 22, 23, 24, 25, 26]
def R_slices_heapSortOrdered_5 : AC := .ops false [⟨some 20, .mov (.t 9), none, []⟩,
  ⟨some 21, .bin .sub (.t 20) (.c (.int .i64 1)), none, []⟩,
  ⟨some 9, .mov (.t 21), none, []⟩] [20, 21]
def L_slices_heapSortOrdered_1 : AC := (.seq (.seq R_slices_heapSortOrdered_4 (.cond (.t 19) .skip (.exit 0))) (.seq (.block 1 R_slices_heapSortOrdered_6) R_slices_heapSortOrdered_5))
def R_slices_heapSortOrdered_7 : AC := .ops false [⟨some 27, .mov (.t 8), none, []⟩,
  ⟨some 28, .bin .sub (.t 27) (.c (.int .i64 1)), none, []⟩,
  ⟨some 10, .mov (.t 28), none, []⟩] [8, 9, 19, 27, 28]
def R_slices_heapSortOrdered_8 : AC := .ops false [⟨some 29, .mov (.t 10), none, []⟩,
  ⟨some 30, .bin .geq (.t 29) (.c (.int .i64 0)), none, []⟩] [29]
def R_slices_heapSortOrdered_10 : AC := .ops true [⟨some 33, .mov (.t 0), none, []⟩,
  ⟨some 34, .mov (.t 6), none, []⟩,
  ⟨some 35, .mov (.t 0), none, []⟩,
  ⟨some 36, .mov (.t 6), none, []⟩,
  ⟨some 37, .mov (.t 10), none, []⟩,
  ⟨some 38, .bin .add (.t 36) (.t 37), none, [3, 4]⟩,
  ⟨some 39, .mov (.t 0), none, []⟩,
  ⟨some 40, .mov (.t 6), none, []⟩,
  ⟨some 41, .mov (.t 10), none, []⟩,
  ⟨some 42, .bin .add (.t 40) (.t 41), none, [7, 8]⟩,
  ⟨some 43, .ia 1 (.t 39) (.t 42), none, [6, 9]⟩,
  ⟨some 44, .load 1 true (.t 43), none, [10]⟩,
  ⟨some 45, .mov (.t 0), none, []⟩,
  ⟨some 46, .mov (.t 6), none, []⟩,
  ⟨some 47, .ia 1 (.t 45) (.t 46), none, [12, 13]⟩,
  ⟨some 48, .load 1 true (.t 47), none, [14]⟩,
  ⟨some 49, .ia 1 (.t 33) (.t 34), none, [0, 1, 0, 1, 6, 7, 8, 9, 10, 11, 15]⟩,
  ⟨none, .store 1 (.t 49) (.t 44), none, [16, 11, 0, 1, 6, 7, 8, 9, 10, 11, 15]⟩,
  ⟨some 50, .ia 1 (.t 35) (.t 38), none, [2, 5, 0, 1, 2, 3, 4, 5, 6, 7, 8, 9, 10, 11, 12, 13, 14, 15, 16, 17]⟩,
  ⟨none, .store 1 (.t 50) (.t 48), none, [18, 15, 17, 0, 1, 2, 3, 4, 5, 6, 7, 8, 9, 10, 11, 12, 13, 14, 15, 16, 17]⟩] [30, 33, 34, 35, 36, 37, 38, 39, 40, 41, 42, 43, 44, 45, 46, 47, 48, 49, 50]
def R_slices_heapSortOrdered_11 : AC := .ops false [⟨some 51, .mov (.t 0), none, []⟩,
  ⟨some 52, .mov (.t 7), none, []⟩,
  ⟨some 53, .mov (.t 10), none, []⟩,
  ⟨some 54, .mov (.t 6), none, []⟩,
  ⟨some 55, .call (.fn 240) [.t 51, .t 52, .t 53, .t 54], none, []⟩] [51, 52, 53, 54, 55]
def R_slices_heapSortOrdered_9 : AC := .ops false [⟨some 31, .mov (.t 10), none, []⟩,
  ⟨some 32, .bin .sub (.t 31) (.c (.int .i64 1)), none, []⟩,
  ⟨some 10, .mov (.t 32), none, []⟩] [31, 32]
def L_slices_heapSortOrdered_2 : AC := (.seq (.seq R_slices_heapSortOrdered_8 (.cond (.t 30) .skip (.exit 2))) (.seq (.block 3 (.seq R_slices_heapSortOrdered_10 R_slices_heapSortOrdered_11)) R_slices_heapSortOrdered_9))
def F_slices_heapSortOrdered : AFunc := { ntmps := 56, nargs := 3, kills := [[11], [], [1, 2, 12, 13, 14], [15, 16, 17], [18], [20, 21], [19, 22, 23, 24, 25, 26], [8, 9, 19, 27, 28], [29], [31, 32], [30, 33, 34, 35, 36, 37, 38, 39, 40, 41, 42, 43, 44, 45, 46, 47, 48, 49, 50], [51, 52, 53, 54, 55]], results := [], body := (.seq R_slices_heapSortOrdered_0 (.seq R_slices_heapSortOrdered_1 (.seq R_slices_heapSortOrdered_2 (.seq (.seq R_slices_heapSortOrdered_3 (.block 0 (.loop L_slices_heapSortOrdered_1))) (.seq R_slices_heapSortOrdered_7 (.block 2 (.loop L_slices_heapSortOrdered_2))))))) }
abbrev k_slices_heapSortOrdered : Nat := 151
-- slices.breakPatternsOrdered[int]
def R_slices_breakPatternsOrdered_0 : AC := .ops false [⟨some 11, .mov (.t 2), none, []⟩,
  ⟨some 12, .mov (.t 1), none, []⟩,
  ⟨some 13, .bin .sub (.t 11) (.t 12), none, []⟩,
  ⟨some 6, .mov (.t 13), none, []⟩] [2, 11, 12, 13]
def R_slices_breakPatternsOrdered_1 : AC := .ops false [⟨some 14, .mov (.t 6), none, []⟩,
  ⟨some 15, .bin .geq (.t 14) (.c (.int .i64 8)), none, []⟩] [14]
def R_slices_breakPatternsOrdered_2 : AC := .ops false [⟨some 16, .mov (.t 6), none, []⟩,
  ⟨some 17, .conv .u64 (.t 16), none, []⟩,
  ⟨some 7, .alloc [.int .u64 0], none, []⟩,
  ⟨none, .store 1 (.t 7) (.t 17), none, []⟩] [15, 16, 17]
def R_slices_breakPatternsOrdered_3 : AC := .ops false [⟨some 18, .mov (.t 6), none, []⟩,
  ⟨some 19, .call (.fn 241) [.t 18], none, []⟩,
  ⟨some 8, .mov (.t 19), none, []⟩] [18, 19]
def R_slices_breakPatternsOrdered_4 : AC := .ops false [⟨some 20, .mov (.t 1), none, []⟩,
  ⟨some 21, .mov (.t 6), none, []⟩,
  ⟨some 22, .bin .quo (.t 21) (.c (.int .i64 4)), none, []⟩,
  ⟨some 23, .bin .mul (.t 22) (.c (.int .i64 2)), none, []⟩,
  ⟨some 24, .bin .add (.t 20) (.t 23), none, []⟩,
  ⟨some 25, .bin .sub (.t 24) (.c (.int .i64 1)), none, []⟩,
  ⟨some 9, .mov (.t 25), none, []⟩] [20, 21, 22, 23, 24, 25]
def R_slices_breakPatternsOrdered_5 : AC := .ops false [⟨some 26, .mov (.t 9), none, []⟩,
  ⟨some 27, .mov (.t 1), none, []⟩,
  ⟨some 28, .mov (.t 6), none, []⟩,
  ⟨some 29, .bin .quo (.t 28) (.c (.int .i64 4)), none, []⟩,
  ⟨some 30, .bin .mul (.t 29) (.c (.int .i64 2)), none, []⟩,
  ⟨some 31, .bin .add (.t 27) (.t 30), none, []⟩,
  ⟨some 32, .bin .add (.t 31) (.c (.int .i64 1)), none, []⟩,
  ⟨some 33, .bin .leq (.t 26) (.t 32), none, []⟩] [26, 27, 28, 29, 30, 31, 32]
def R_slices_breakPatternsOrdered_7 : AC := .ops false [⟨some 36, .call (.fn 242) [.t 7], none, []⟩,
  ⟨some 37, .mov (.t 8), none, []⟩,
  ⟨some 38, .bin .sub (.t 37) (.c (.int .u64 1)), none, []⟩,
  ⟨some 39, .bin .and (.t 36) (.t 38), none, []⟩,
  ⟨some 40, .conv .i64 (.t 39), none, []⟩,
  ⟨some 10, .mov (.t 40), none, []⟩] [33, 36, 37, 38, 39, 40]
def R_slices_breakPatternsOrdered_8 : AC := .ops false [⟨some 41, .mov (.t 10), none, []⟩,
  ⟨some 42, .mov (.t 6), none, []⟩,
  ⟨some 43, .bin .geq (.t 41) (.t 42), none, []⟩] [41, 42]
def R_slices_breakPatternsOrdered_9 : AC := .ops false [⟨some 44, .mov (.t 10), none, []⟩,
  ⟨some 45, .mov (.t 6), none, []⟩,
  ⟨some 46, .bin .sub (.t 44) (.t 45), none, []⟩,
  ⟨some 10, .mov (.t 46), none, []⟩] [43, 44, 45, 46]
def R_slices_breakPatternsOrdered_10 : AC := .ops true [⟨some 47, .mov (.t 0), none, []⟩,
  ⟨some 48, .mov (.t 9), none, []⟩,
  ⟨some 49, .mov (.t 0), none, []⟩,
  ⟨some 50, .mov (.t 1), none, []⟩,
  ⟨some 51, .mov (.t 10), none, []⟩,
  ⟨some 52, .bin .add (.t 50) (.t 51), none, [3, 4]⟩,
  ⟨some 53, .mov (.t 0), none, []⟩,
  ⟨some 54, .mov (.t 1), none, []⟩,
  ⟨some 55, .mov (.t 10), none, []⟩,
  ⟨some 56, .bin .add (.t 54) (.t 55), none, [7, 8]⟩,
  ⟨some 57, .ia 1 (.t 53) (.t 56), none, [6, 9]⟩,
  ⟨some 58, .load 1 true (.t 57), none, [10]⟩,
  ⟨some 59, .mov (.t 0), none, []⟩,
  ⟨some 60, .mov (.t 9), none, []⟩,
  ⟨some 61, .ia 1 (.t 59) (.t 60), none, [12, 13]⟩,
  ⟨some 62, .load 1 true (.t 61), none, [14]⟩,
  ⟨some 63, .ia 1 (.t 47) (.t 48), none, [0, 1, 0, 1, 6, 7, 8, 9, 10, 11, 15]⟩,
  ⟨none, .store 1 (.t 63) (.t 58), none, [16, 11, 0, 1, 6, 7, 8, 9, 10, 11, 15]⟩,
  ⟨some 64, .ia 1 (.t 49) (.t 52), none, [2, 5, 0, 1, 2, 3, 4, 5, 6, 7, 8, 9, 10, 11, 12, 13, 14, 15, 16, 17]⟩,
  ⟨none, .store 1 (.t 64) (.t 62), none, [18, 15, 17, 0, 1, 2, 3, 4, 5, 6, 7, 8, 9, 10, 11, 12, 13, 14, 15, 16, 17]⟩] [10, 43, 47, 48, 49, 50, 51, 52, 53, 54, 55, 56, 57, 58, 59, 60, 61, 62, 63, 64]
def R_slices_breakPatternsOrdered_6 : AC := .ops false [⟨some 34, .mov (.t 9), none, []⟩,
  ⟨some 35, .bin .add (.t 34) (.c (.int .i64 1)), none, []⟩,
  ⟨some 9, .mov (.t 35), none, []⟩] [34, 35]
def L_slices_breakPatternsOrdered_1 : AC := (.seq (.seq R_slices_breakPatternsOrdered_5 (.cond (.t 33) .skip (.exit 0))) (.seq (.block 1 (.seq R_slices_breakPatternsOrdered_7 (.seq (.seq R_slices_breakPatternsOrdered_8 (.cond (.t 43) R_slices_breakPatternsOrdered_9 .skip)) R_slices_breakPatternsOrdered_10))) R_slices_breakPatternsOrdered_6))
def F_slices_breakPatternsOrdered : AFunc := { ntmps := 65, nargs := 3, kills := [[2, 11, 12, 13], [14], [15, 16, 17], [18, 19], [20, 21, 22, 23, 24, 25], [26, 27, 28, 29, 30, 31, 32], [34, 35], [33, 36, 37, 38, 39, 40], [41, 42], [43, 44, 45, 46], [10, 43, 47, 48, 49, 50, 51, 52, 53, 54, 55, 56, 57, 58, 59, 60, 61, 62, 63, 64]], results := [], body := (.seq R_slices_breakPatternsOrdered_0 (.seq R_slices_breakPatternsOrdered_1 (.cond (.t 15) (.seq R_slices_breakPatternsOrdered_2 (.seq R_slices_breakPatternsOrdered_3 (.seq R_slices_breakPatternsOrdered_4 (.block 0 (.loop L_slices_breakPatternsOrdered_1))))) .skip))) }
abbrev k_slices_breakPatternsOrdered : Nat := 152
-- slices.choosePivotOrdered[int]
def R_slices_choosePivotOrdered_0 : AC := .ops false [⟨some 6, .mov (.c (.int .i64 0)), none, []⟩,
  ⟨some 7, .mov (.c (.int .i64 0)), none, []⟩] [6, 7]
def R_slices_choosePivotOrdered_1 : AC := .ops false [⟨some 13, .mov (.t 2), none, []⟩,
  ⟨some 14, .mov (.t 1), none, []⟩,
  ⟨some 15, .bin .sub (.t 13) (.t 14), none, []⟩,
  ⟨some 8, .mov (.t 15), none, []⟩] [2, 13, 14, 15]
def R_slices_choosePivotOrdered_2 : AC := .ops false [⟨some 9, .alloc [.int .i64 0], none, []⟩] []
def R_slices_choosePivotOrdered_3 : AC := .ops false [⟨some 16, .mov (.t 1), none, []⟩,
  ⟨some 17, .mov (.t 8), none, []⟩,
  ⟨some 18, .bin .quo (.t 17) (.c (.int .i64 4)), none, []⟩,
  ⟨some 19, .bin .mul (.t 18) (.c (.int .i64 1)), none, []⟩,
  ⟨some 20, .bin .add (.t 16) (.t 19), none, []⟩,
  ⟨some 10, .mov (.t 20), none, []⟩] [16, 17, 18, 19, 20]
def R_slices_choosePivotOrdered_4 : AC := .ops false [⟨some 21, .mov (.t 1), none, []⟩,
  ⟨some 22, .mov (.t 8), none, []⟩,
  ⟨some 23, .bin .quo (.t 22) (.c (.int .i64 4)), none, []⟩,
  ⟨some 24, .bin .mul (.t 23) (.c (.int .i64 2)), none, []⟩,
  ⟨some 25, .bin .add (.t 21) (.t 24), none, []⟩,
  ⟨some 11, .mov (.t 25), none, []⟩] [21, 22, 23, 24, 25]
def R_slices_choosePivotOrdered_5 : AC := .ops false [⟨some 26, .mov (.t 1), none, []⟩,
  ⟨some 27, .mov (.t 8), none, []⟩,
  ⟨some 28, .bin .quo (.t 27) (.c (.int .i64 4)), none, []⟩,
  ⟨some 29, .bin .mul (.t 28) (.c (.int .i64 3)), none, []⟩,
  ⟨some 30, .bin .add (.t 26) (.t 29), none, []⟩,
  ⟨some 12, .mov (.t 30), none, []⟩] [1, 26, 27, 28, 29, 30]
def R_slices_choosePivotOrdered_6 : AC := .ops false [⟨some 31, .mov (.t 8), none, []⟩,
  ⟨some 32, .bin .geq (.t 31) (.c (.int .i64 8)), none, []⟩] [31]
def R_slices_choosePivotOrdered_7 : AC := .ops false [⟨some 33, .mov (.t 8), none, []⟩,
  ⟨some 34, .bin .geq (.t 33) (.c (.int .i64 50)), none, []⟩] [8, 32, 33]
def R_slices_choosePivotOrdered_8 : AC := .ops false [⟨some 35, .mov (.t 0), none, []⟩,
  ⟨some 36, .mov (.t 10), none, []⟩,
  ⟨some 37, .call (.fn 243) [.t 35, .t 36, .t 9], none, []⟩,
  ⟨some 10, .mov (.t 37), none, []⟩] [34, 35, 36, 37]
def R_slices_choosePivotOrdered_9 : AC := .ops false [⟨some 38, .mov (.t 0), none, []⟩,
  ⟨some 39, .mov (.t 11), none, []⟩,
  ⟨some 40, .call (.fn 243) [.t 38, .t 39, .t 9], none, []⟩,
  ⟨some 11, .mov (.t 40), none, []⟩] [38, 39, 40]
def R_slices_choosePivotOrdered_10 : AC := .ops false [⟨some 41, .mov (.t 0), none, []⟩,
  ⟨some 42, .mov (.t 12), none, []⟩,
  ⟨some 43, .call (.fn 243) [.t 41, .t 42, .t 9], none, []⟩,
  ⟨some 12, .mov (.t 43), none, []⟩] [41, 42, 43]
def R_slices_choosePivotOrdered_11 : AC := .ops false [⟨some 44, .mov (.t 0), none, []⟩,
  ⟨some 45, .mov (.t 10), none, []⟩,
  ⟨some 46, .mov (.t 11), none, []⟩,
  ⟨some 47, .mov (.t 12), none, []⟩,
  ⟨some 48, .call (.fn 244) [.t 44, .t 45, .t 46, .t 47, .t 9], none, []⟩,
  ⟨some 11, .mov (.t 48), none, []⟩] [0, 10, 12, 34, 44, 45, 46, 47, 48]
def R_slices_choosePivotOrdered_12 : AC := .ops false [⟨some 49, .load 1 true (.t 9), none, []⟩] [0, 8, 9, 10, 12, 32]
def R_slices_choosePivotOrdered_14 : AC := .ops false [⟨some 52, .bin .eql (.t 49) (.c (.int .i64 0)), none, []⟩,
  ⟨some 51, .mov (.t 52), none, []⟩] [52]
def R_slices_choosePivotOrdered_15 : AC := .ops false [⟨some 53, .mov (.t 11), none, []⟩,
  ⟨some 6, .mov (.t 53), none, []⟩,
  ⟨some 7, .mov (.c (.int .i64 1)), none, []⟩] [11, 49, 51, 53]
def R_slices_choosePivotOrdered_16 : AC := .ops false [⟨some 55, .bin .eql (.t 49) (.c (.int .i64 12)), none, []⟩,
  ⟨some 54, .mov (.t 55), none, []⟩] [49, 51, 55]
def R_slices_choosePivotOrdered_17 : AC := .ops false [⟨some 56, .mov (.t 11), none, []⟩,
  ⟨some 6, .mov (.t 56), none, []⟩,
  ⟨some 7, .mov (.c (.int .i64 2)), none, []⟩] [11, 54, 56]
def R_slices_choosePivotOrdered_13 : AC := .ops false [⟨some 50, .mov (.t 11), none, []⟩,
  ⟨some 6, .mov (.t 50), none, []⟩,
  ⟨some 7, .mov (.c (.int .i64 0)), none, []⟩] [11, 50, 54]
def F_slices_choosePivotOrdered : AFunc := { ntmps := 57, nargs := 3, kills := [[6, 7], [2, 13, 14, 15], [], [16, 17, 18, 19, 20], [21, 22, 23, 24, 25], [1, 26, 27, 28, 29, 30], [31], [8, 32, 33], [34, 35, 36, 37], [38, 39, 40], [41, 42, 43], [0, 10, 12, 34, 44, 45, 46, 47, 48], [0, 8, 9, 10, 12, 32], [11, 50, 54], [52], [11, 49, 51, 53], [49, 51, 55], [11, 54, 56]], results := [.t 6, .t 7], body := (.seq R_slices_choosePivotOrdered_0 (.seq R_slices_choosePivotOrdered_1 (.seq R_slices_choosePivotOrdered_2 (.seq R_slices_choosePivotOrdered_3 (.seq R_slices_choosePivotOrdered_4 (.seq R_slices_choosePivotOrdered_5 (.seq (.seq R_slices_choosePivotOrdered_6 (.cond (.t 32) (.seq (.seq R_slices_choosePivotOrdered_7 (.cond (.t 34) (.seq R_slices_choosePivotOrdered_8 (.seq R_slices_choosePivotOrdered_9 R_slices_choosePivotOrdered_10)) .skip)) R_slices_choosePivotOrdered_11) .skip)) (.seq R_slices_choosePivotOrdered_12 (.block 0 (.seq R_slices_choosePivotOrdered_14 (.cond (.t 51) (.seq R_slices_choosePivotOrdered_15 .ret) (.seq R_slices_choosePivotOrdered_16 (.cond (.t 54) (.seq R_slices_choosePivotOrdered_17 .ret) (.seq R_slices_choosePivotOrdered_13 .ret)))))))))))))) }
abbrev k_slices_choosePivotOrdered : Nat := 153
-- slices.reverseRangeOrdered[int]
def R_slices_reverseRangeOrdered_0 : AC := .ops false [⟨some 8, .mov (.t 1), none, []⟩,
  ⟨some 6, .mov (.t 8), none, []⟩] [1, 8]
def R_slices_reverseRangeOrdered_1 : AC := .ops false [⟨some 9, .mov (.t 2), none, []⟩,
  ⟨some 10, .bin .sub (.t 9) (.c (.int .i64 1)), none, []⟩,
  ⟨some 7, .mov (.t 10), none, []⟩] [2, 9, 10]
def R_slices_reverseRangeOrdered_2 : AC := .ops false [⟨some 11, .mov (.t 6), none, []⟩,
  ⟨some 12, .mov (.t 7), none, []⟩,
  ⟨some 13, .bin .lss (.t 11) (.t 12), none, []⟩] [11, 12]
def R_slices_reverseRangeOrdered_3 : AC := .ops true [⟨some 14, .mov (.t 0), none, []⟩,
  ⟨some 15, .mov (.t 6), none, []⟩,
  ⟨some 16, .mov (.t 0), none, []⟩,
  ⟨some 17, .mov (.t 7), none, []⟩,
  ⟨some 18, .mov (.t 0), none, []⟩,
  ⟨some 19, .mov (.t 7), none, []⟩,
  ⟨some 20, .ia 1 (.t 18) (.t 19), none, [4, 5]⟩,
  ⟨some 21, .load 1 true (.t 20), none, [6]⟩,
  ⟨some 22, .mov (.t 0), none, []⟩,
  ⟨some 23, .mov (.t 6), none, []⟩,
  ⟨some 24, .ia 1 (.t 22) (.t 23), none, [8, 9]⟩,
  ⟨some 25, .load 1 true (.t 24), none, [10]⟩,
  ⟨some 26, .ia 1 (.t 14) (.t 15), none, [0, 1, 0, 1, 4, 5, 6, 7, 11]⟩,
  ⟨none, .store 1 (.t 26) (.t 21), none, [12, 7, 0, 1, 4, 5, 6, 7, 11]⟩,
  ⟨some 27, .ia 1 (.t 16) (.t 17), none, [2, 3, 0, 1, 2, 3, 4, 5, 6, 7, 8, 9, 10, 11, 12, 13]⟩,
  ⟨none, .store 1 (.t 27) (.t 25), none, [14, 11, 13, 0, 1, 2, 3, 4, 5, 6, 7, 8, 9, 10, 11, 12, 13]⟩] [13, 14, 15, 16, 17, 18, 19, 20, 21, 22, 23, 24, 25, 26, 27]
def R_slices_reverseRangeOrdered_4 : AC := .ops false [⟨some 28, .mov (.t 6), none, []⟩,
  ⟨some 29, .bin .add (.t 28) (.c (.int .i64 1)), none, []⟩,
  ⟨some 6, .mov (.t 29), none, []⟩] [28, 29]
def R_slices_reverseRangeOrdered_5 : AC := .ops false [⟨some 30, .mov (.t 7), none, []⟩,
  ⟨some 31, .bin .sub (.t 30) (.c (.int .i64 1)), none, []⟩,
  ⟨some 7, .mov (.t 31), none, []⟩] [30, 31]
def L_slices_reverseRangeOrdered_1 : AC := (.seq (.seq R_slices_reverseRangeOrdered_2 (.cond (.t 13) .skip (.exit 0))) (.block 1 (.seq R_slices_reverseRangeOrdered_3 (.seq R_slices_reverseRangeOrdered_4 R_slices_reverseRangeOrdered_5))))
def F_slices_reverseRangeOrdered : AFunc := { ntmps := 32, nargs := 3, kills := [[1, 8], [2, 9, 10], [11, 12], [13, 14, 15, 16, 17, 18, 19, 20, 21, 22, 23, 24, 25, 26, 27], [28, 29], [30, 31]], results := [], body := (.seq R_slices_reverseRangeOrdered_0 (.seq R_slices_reverseRangeOrdered_1 (.block 0 (.loop L_slices_reverseRangeOrdered_1)))) }
abbrev k_slices_reverseRangeOrdered : Nat := 154
end Go.Proofs.YtgajemhdpjomnaaGreat
