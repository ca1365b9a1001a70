/- The functions in the abstract language, printed by a program. -/
import Derived.Test.YtgajemhdpjomnaaGreatAlA
set_option linter.unusedVariables false
set_option maxRecDepth 100000
namespace Go.Proofs.YtgajemhdpjomnaaGreat
-- (suffrage/ratio.pair).crossed
def R_ratio_pair_crossed_0 : AC := .ops false [⟨some 1, .box (.t 0), none, []⟩,
  ⟨some 2, .mov (.c (.lst 0 [] (some 0))), none, []⟩,
  ⟨some 3, .mov (.c (.lst 0 [] (some 0))), none, []⟩,
  ⟨some 4, .mov (.c (.int .i64 0)), none, []⟩] [0, 2, 3, 4]
def R_ratio_pair_crossed_1 : AC := .ops false [⟨some 6, .fa (.t 1) 0, none, []⟩,
  ⟨some 7, .fa (.t 6) 1, none, []⟩,
  ⟨some 8, .load 1 true (.t 7), none, []⟩,
  ⟨some 9, .fa (.t 1) 3, none, []⟩,
  ⟨some 10, .fa (.t 9) 2, none, []⟩,
  ⟨some 11, .load 1 true (.t 10), none, []⟩,
  ⟨some 12, .call (.fn 293) [.t 8, .t 11], none, []⟩,
  ⟨some 5, .mov (.t 12), none, []⟩,
  ⟨some 13, .ext (.t 5) 0, none, []⟩,
  ⟨some 14, .ext (.t 5) 1, none, []⟩,
  ⟨some 2, .mov (.t 13), none, []⟩,
  ⟨some 4, .mov (.t 14), none, []⟩] [5, 6, 7, 8, 9, 10, 11, 12, 13, 14]
def R_ratio_pair_crossed_2 : AC := .ops false [⟨some 15, .mov (.t 4), none, []⟩,
  ⟨some 16, .bin .neq (.t 15) (.c (.int .i64 0)), none, []⟩] [15]
def R_ratio_pair_crossed_3 : AC := .ops false [⟨some 17, .mov (.t 4), none, []⟩,
  ⟨some 2, .mov (.c (.lst 0 [] (some 0))), none, []⟩,
  ⟨some 3, .mov (.c (.lst 0 [] (some 0))), none, []⟩,
  ⟨some 4, .mov (.t 17), none, []⟩] [1, 16, 17]
def R_ratio_pair_crossed_4 : AC := .ops false [⟨some 19, .fa (.t 1) 3, none, []⟩,
  ⟨some 20, .fa (.t 19) 1, none, []⟩,
  ⟨some 21, .load 1 true (.t 20), none, []⟩,
  ⟨some 22, .fa (.t 1) 0, none, []⟩,
  ⟨some 23, .fa (.t 22) 2, none, []⟩,
  ⟨some 24, .load 1 true (.t 23), none, []⟩,
  ⟨some 25, .call (.fn 293) [.t 21, .t 24], none, []⟩,
  ⟨some 18, .mov (.t 25), none, []⟩,
  ⟨some 26, .ext (.t 18) 0, none, []⟩,
  ⟨some 27, .ext (.t 18) 1, none, []⟩,
  ⟨some 3, .mov (.t 26), none, []⟩,
  ⟨some 4, .mov (.t 27), none, []⟩] [1, 16, 18, 19, 20, 21, 22, 23, 24, 25, 26, 27]
def R_ratio_pair_crossed_5 : AC := .ops false [⟨some 28, .mov (.t 2), none, []⟩,
  ⟨some 29, .mov (.t 3), none, []⟩,
  ⟨some 30, .mov (.t 4), none, []⟩,
  ⟨some 2, .mov (.t 28), none, []⟩,
  ⟨some 3, .mov (.t 29), none, []⟩,
  ⟨some 4, .mov (.t 30), none, []⟩] [28, 29, 30]
def F_ratio_pair_crossed : AFunc := { ntmps := 31, nargs := 1, kills := [[0, 2, 3, 4], [5, 6, 7, 8, 9, 10, 11, 12, 13, 14], [15], [1, 16, 17], [1, 16, 18, 19, 20, 21, 22, 23, 24, 25, 26, 27], [28, 29, 30]], results := [.t 2, .t 3, .t 4], body := (.seq R_ratio_pair_crossed_0 (.seq R_ratio_pair_crossed_1 (.seq (.seq R_ratio_pair_crossed_2 (.cond (.t 16) (.seq R_ratio_pair_crossed_3 .ret) .skip)) (.seq R_ratio_pair_crossed_4 (.seq R_ratio_pair_crossed_5 .ret))))) }
abbrev k_ratio_pair_crossed : Nat := 249
-- suffrage/nat.Cmp
def R_nat_Cmp_0 : AC := .ops false [⟨some 4, .mov (.c (.int .i64 0)), none, []⟩,
  ⟨some 5, .mov (.c (.int .i64 0)), none, []⟩] [4, 5]
def R_nat_Cmp_1 : AC := .ops false [⟨some 7, .mov (.t 0), none, []⟩,
  ⟨some 8, .mov (.t 1), none, []⟩,
  ⟨some 9, .call (.fn 245) [.t 7, .t 8], none, []⟩,
  ⟨some 6, .mov (.t 9), none, []⟩] [7, 8, 9]
def R_nat_Cmp_2 : AC := .ops false [⟨some 10, .mov (.t 6), none, []⟩,
  ⟨some 11, .bin .neq (.t 10) (.c (.int .i64 0)), none, []⟩] [10]
def R_nat_Cmp_3 : AC := .ops false [⟨some 12, .mov (.t 6), none, []⟩,
  ⟨some 4, .mov (.c (.int .i64 0)), none, []⟩,
  ⟨some 5, .mov (.t 12), none, []⟩] [0, 1, 6, 11, 12]
def R_nat_Cmp_4 : AC := .ops false [⟨some 13, .mov (.t 0), none, []⟩,
  ⟨some 14, .mov (.t 1), none, []⟩,
  ⟨some 15, .call (.fn 289) [.t 13, .t 14], none, []⟩,
  ⟨some 4, .mov (.t 15), none, []⟩,
  ⟨some 5, .mov (.c (.int .i64 0)), none, []⟩] [0, 1, 6, 11, 13, 14, 15]
def F_nat_Cmp : AFunc := { ntmps := 16, nargs := 2, kills := [[4, 5], [7, 8, 9], [10], [0, 1, 6, 11, 12], [0, 1, 6, 11, 13, 14, 15]], results := [.t 4, .t 5], body := (.seq R_nat_Cmp_0 (.seq (.seq R_nat_Cmp_1 (.seq R_nat_Cmp_2 (.cond (.t 11) (.seq R_nat_Cmp_3 .ret) .skip))) (.seq R_nat_Cmp_4 .ret))) }
abbrev k_nat_Cmp : Nat := 250
-- (*suffrage/choose.Count).Seats
def R_choose_Count_Seats_0 : AC := .ops false [⟨some 4, .box (.t 1), none, []⟩,
  ⟨some 6, .mov (.c (.lst 0 [] (some 0))), none, []⟩] [1]
def R_choose_Count_Seats_1 : AC := .ops false [⟨some 9, .load 1 true (.t 4), none, []⟩,
  ⟨some 10, .len (.t 9), none, []⟩,
  ⟨some 11, .call (.fn 116) [.t 10], none, []⟩,
  ⟨some 7, .mov (.t 11), none, []⟩] [9, 10, 11]
def R_choose_Count_Seats_2 : AC := .ops false [⟨some 12, .mov (.t 2), none, []⟩,
  ⟨some 13, .mov (.c (.int .i64 0)), none, []⟩] [2]
def R_choose_Count_Seats_3 : AC := .ops false [⟨some 14, .bin .lss (.t 13) (.t 12), none, []⟩] []
def R_choose_Count_Seats_4 : AC := .ops false [⟨some 15, .mov (.t 0), none, []⟩,
  ⟨some 16, .mov (.t 7), none, []⟩,
  ⟨some 17, .mkfn 304 [] [.t 4], none, []⟩,
  ⟨some 18, .call (.fn 115) [.t 16, .t 17], none, []⟩,
  ⟨some 19, .call (.fn 114) [.t 15, .t 18], none, []⟩,
  ⟨some 8, .alloc [.int .i64 0], none, []⟩,
  ⟨none, .store 1 (.t 8) (.t 19), none, []⟩] [14, 15, 16, 17, 18, 19]
def R_choose_Count_Seats_5 : AC := .ops false [⟨some 20, .mov (.t 6), none, []⟩,
  ⟨some 21, .load 1 true (.t 8), none, []⟩,
  ⟨some 22, .bslice 1 [.int .i64 0] 1 [(0, .t 21)], none, []⟩,
  ⟨some 23, .append 1 8 (.t 20) (.t 22), none, []⟩,
  ⟨some 6, .mov (.t 23), none, []⟩] [20, 21, 22, 23]
def R_choose_Count_Seats_6 : AC := .ops false [⟨some 24, .mov (.t 7), none, []⟩,
  ⟨some 25, .mkfn 305 [] [.t 8], none, []⟩,
  ⟨some 26, .call (.fn 121) [.t 24, .t 25], none, []⟩,
  ⟨some 7, .mov (.t 26), none, []⟩] [8, 24, 25, 26]
def R_choose_Count_Seats_7 : AC := .ops false [⟨some 27, .bin .add (.t 13) (.c (.int .i64 1)), none, []⟩,
  ⟨some 13, .mov (.t 27), none, []⟩] [27]
def L_choose_Count_Seats_1 : AC := (.seq R_choose_Count_Seats_3 (.seq (.cond (.t 14) .skip (.exit 0)) (.seq (.block 1 (.seq R_choose_Count_Seats_4 (.seq R_choose_Count_Seats_5 R_choose_Count_Seats_6))) R_choose_Count_Seats_7)))
def R_choose_Count_Seats_8 : AC := .ops false [⟨some 28, .mov (.t 6), none, []⟩,
  ⟨some 6, .mov (.t 28), none, []⟩] [0, 4, 7, 12, 13, 14, 28]
def F_choose_Count_Seats : AFunc := { ntmps := 29, nargs := 3, kills := [[1], [9, 10, 11], [2], [], [14, 15, 16, 17, 18, 19], [20, 21, 22, 23], [8, 24, 25, 26], [27], [0, 4, 7, 12, 13, 14, 28]], results := [.t 6], body := (.seq R_choose_Count_Seats_0 (.seq R_choose_Count_Seats_1 (.seq (.seq R_choose_Count_Seats_2 (.block 0 (.loop L_choose_Count_Seats_1))) (.seq R_choose_Count_Seats_8 .ret)))) }
abbrev k_choose_Count_Seats : Nat := 263
-- slices.Index[[]int,int]
def R_slices_Index_3_0 : AC := .ops false [⟨some 4, .mov (.c (.int .i64 0)), none, []⟩] [4]
def R_slices_Index_3_1 : AC := .ops false [⟨some 6, .mov (.t 0), none, []⟩,
  ⟨some 7, .len (.t 6), none, []⟩,
  ⟨some 8, .mov (.c (.int .i64 0)), none, []⟩] [6]
def R_slices_Index_3_2 : AC := .ops false [⟨some 9, .bin .lss (.t 8) (.t 7), none, []⟩] []
def R_slices_Index_3_3 : AC := .ops false [⟨some 10, .mov (.t 8), none, []⟩,
  ⟨some 5, .mov (.t 10), none, []⟩] [9, 10]
def R_slices_Index_3_4 : AC := .ops false [⟨some 11, .mov (.t 1), none, []⟩,
  ⟨some 12, .mov (.t 0), none, []⟩,
  ⟨some 13, .mov (.t 5), none, []⟩,
  ⟨some 14, .ia 1 (.t 12) (.t 13), none, []⟩,
  ⟨some 15, .load 1 true (.t 14), none, []⟩,
  ⟨some 16, .bin .eql (.t 11) (.t 15), none, []⟩] [11, 12, 13, 14, 15]
def R_slices_Index_3_5 : AC := .ops false [⟨some 17, .mov (.t 5), none, []⟩,
  ⟨some 4, .mov (.t 17), none, []⟩] [0, 1, 5, 7, 8, 16, 17]
def R_slices_Index_3_6 : AC := .ops false [⟨some 18, .bin .add (.t 8) (.c (.int .i64 1)), none, []⟩,
  ⟨some 8, .mov (.t 18), none, []⟩] [5, 16, 18]
def L_slices_Index_3_1 : AC := (.seq R_slices_Index_3_2 (.seq (.cond (.t 9) .skip (.exit 0)) (.seq (.block 1 (.seq R_slices_Index_3_3 (.seq R_slices_Index_3_4 (.cond (.t 16) (.seq R_slices_Index_3_5 .ret) .skip)))) R_slices_Index_3_6)))
def R_slices_Index_3_7 : AC := .ops false [⟨some 4, .mov (.c (.int .i64 (-1))), none, []⟩] [0, 1, 7, 8, 9]
def F_slices_Index_3 : AFunc := { ntmps := 19, nargs := 2, kills := [[4], [6], [], [9, 10], [11, 12, 13, 14, 15], [0, 1, 5, 7, 8, 16, 17], [5, 16, 18], [0, 1, 7, 8, 9]], results := [.t 4], body := (.seq R_slices_Index_3_0 (.seq (.seq R_slices_Index_3_1 (.block 0 (.loop L_slices_Index_3_1))) (.seq R_slices_Index_3_7 .ret))) }
abbrev k_slices_Index_3 : Nat := 264
-- slices.MinFunc[[]int,int]
def R_slices_MinFunc_0 : AC := .ops false [⟨some 4, .mov (.c (.int .i64 0)), none, []⟩] [4]
def R_slices_MinFunc_1 : AC := .ops false [⟨some 7, .mov (.t 0), none, []⟩,
  ⟨some 8, .len (.t 7), none, []⟩,
  ⟨some 9, .bin .lss (.t 8) (.c (.int .i64 1)), none, []⟩] [7, 8]
def R_slices_MinFunc_2 : AC := .ops false [⟨some 10, .mkiface 9 (.c (.str [115, 108, 105, 99, 101, 115, 46, 77, 105, 110, 70, 117, 110, 99, 58, 32, 101, 109, 112, 116, 121, 32, 108, 105, 115, 116])), none, []⟩,
  ⟨none, .no, none, []⟩] [9, 10]
def R_slices_MinFunc_3 : AC := .ops false [⟨some 11, .mov (.t 0), none, []⟩,
  ⟨some 12, .ia 1 (.t 11) (.c (.int .i64 0)), none, []⟩,
  ⟨some 13, .load 1 true (.t 12), none, []⟩,
  ⟨some 5, .mov (.t 13), none, []⟩] [9, 11, 12, 13]
def R_slices_MinFunc_4 : AC := .ops false [⟨some 6, .mov (.c (.int .i64 1)), none, []⟩] []
def R_slices_MinFunc_5 : AC := .ops false [⟨some 14, .mov (.t 6), none, []⟩,
  ⟨some 15, .mov (.t 0), none, []⟩,
  ⟨some 16, .len (.t 15), none, []⟩,
  ⟨some 17, .bin .lss (.t 14) (.t 16), none, []⟩] [14, 15, 16]
def R_slices_MinFunc_7 : AC := .ops false [⟨some 20, .mov (.t 1), none, []⟩,
  ⟨some 21, .mov (.t 0), none, []⟩,
  ⟨some 22, .mov (.t 6), none, []⟩,
  ⟨some 23, .ia 1 (.t 21) (.t 22), none, []⟩,
  ⟨some 24, .load 1 true (.t 23), none, []⟩,
  ⟨some 25, .mov (.t 5), none, []⟩,
  ⟨some 26, .call (.dyn (.t 20)) [.t 24, .t 25], none, []⟩,
  ⟨some 27, .bin .lss (.t 26) (.c (.int .i64 0)), none, []⟩] [17, 20, 21, 22, 23, 24, 25, 26]
def R_slices_MinFunc_8 : AC := .ops false [⟨some 28, .mov (.t 0), none, []⟩,
  ⟨some 29, .mov (.t 6), none, []⟩,
  ⟨some 30, .ia 1 (.t 28) (.t 29), none, []⟩,
  ⟨some 31, .load 1 true (.t 30), none, []⟩,
  ⟨some 5, .mov (.t 31), none, []⟩] [27, 28, 29, 30, 31]
def R_slices_MinFunc_6 : AC := .ops false [⟨some 18, .mov (.t 6), none, []⟩,
  ⟨some 19, .bin .add (.t 18) (.c (.int .i64 1)), none, []⟩,
  ⟨some 6, .mov (.t 19), none, []⟩] [18, 19, 27]
def L_slices_MinFunc_1 : AC := (.seq (.seq R_slices_MinFunc_5 (.cond (.t 17) .skip (.exit 0))) (.seq (.block 1 (.seq R_slices_MinFunc_7 (.cond (.t 27) R_slices_MinFunc_8 .skip))) R_slices_MinFunc_6))
def R_slices_MinFunc_9 : AC := .ops false [⟨some 32, .mov (.t 5), none, []⟩,
  ⟨some 4, .mov (.t 32), none, []⟩] [0, 1, 5, 6, 17, 32]
def F_slices_MinFunc : AFunc := { ntmps := 33, nargs := 2, kills := [[4], [7, 8], [9, 10], [9, 11, 12, 13], [], [14, 15, 16], [18, 19, 27], [17, 20, 21, 22, 23, 24, 25, 26], [27, 28, 29, 30, 31], [0, 1, 5, 6, 17, 32]], results := [.t 4], body := (.seq R_slices_MinFunc_0 (.seq (.seq R_slices_MinFunc_1 (.cond (.t 9) R_slices_MinFunc_2 .skip)) (.seq R_slices_MinFunc_3 (.seq (.seq R_slices_MinFunc_4 (.block 0 (.loop L_slices_MinFunc_1))) (.seq R_slices_MinFunc_9 .ret))))) }
abbrev k_slices_MinFunc : Nat := 265
-- (*suffrage/choose.Count).first$1
def R_choose_Count_first_1_0 : AC := .ops false [⟨some 5, .mov (.c (.int .i64 0)), none, []⟩] [5]
def R_choose_Count_first_1_1 : AC := .ops true [⟨some 6, .load 1 true (.t 2), none, []⟩,
  ⟨some 7, .nilchk (.t 6), none, [0]⟩,
  ⟨some 8, .fa (.t 7) 3, none, [1]⟩,
  ⟨some 9, .load 1 true (.t 8), none, [2]⟩,
  ⟨some 10, .mov (.t 0), none, []⟩,
  ⟨some 11, .call (.fn 264) [.t 9, .t 10], none, [3, 4]⟩,
  ⟨some 12, .load 1 true (.t 2), none, []⟩,
  ⟨some 13, .nilchk (.t 12), none, [6]⟩,
  ⟨some 14, .fa (.t 13) 3, none, [7]⟩,
  ⟨some 15, .load 1 true (.t 14), none, [8]⟩,
  ⟨some 16, .mov (.t 1), none, []⟩,
  ⟨some 17, .call (.fn 264) [.t 15, .t 16], none, [9, 10, 5]⟩,
  ⟨some 18, .bin .sub (.t 11) (.t 17), none, [5, 11]⟩,
  ⟨some 5, .mov (.t 18), none, [12, 11, 0, 1, 2, 3, 4, 5, 6, 7, 8, 9, 10, 11, 12]⟩] [0, 1, 2, 6, 7, 8, 9, 10, 11, 12, 13, 14, 15, 16, 17, 18]
def F_choose_Count_first_1 : AFunc := { ntmps := 19, nargs := 3, kills := [[5], [0, 1, 2, 6, 7, 8, 9, 10, 11, 12, 13, 14, 15, 16, 17, 18]], results := [.t 5], body := (.seq R_choose_Count_first_1_0 (.seq R_choose_Count_first_1_1 .ret)) }
abbrev k_choose_Count_first_1 : Nat := 266
-- suffrage/ranked.check
def R_ranked_check_0 : AC := .ops false [⟨some 3, .box (.t 0), none, []⟩,
  ⟨some 6, .mov (.c (.int .i64 0)), none, []⟩] [0, 6]
def R_ranked_check_1 : AC := .ops false [⟨some 8, .mov (.t 1), none, []⟩,
  ⟨some 9, .bin .lss (.t 8) (.c (.int .i64 1)), none, []⟩,
  ⟨some 10, .mov (.t 9), none, []⟩,
  ⟨some 11, .mov (.t 1), some (10, false), []⟩,
  ⟨some 12, .bin .gtr (.t 11) (.c (.int .i64 10)), some (10, false), []⟩,
  ⟨some 13, .pick (.t 10) (.c (.bool true)) (.t 12), none, []⟩,
  ⟨some 14, .mov (.t 13), none, []⟩,
  ⟨some 15, .mov (.t 2), some (14, false), []⟩,
  ⟨some 16, .mov (.t 1), some (14, false), []⟩,
  ⟨some 17, .call (.fn 187) [.t 15, .t 16], some (14, false), []⟩,
  ⟨some 18, .un .not (.t 17), some (14, false), []⟩,
  ⟨some 19, .pick (.t 14) (.c (.bool true)) (.t 18), none, []⟩,
  ⟨some 7, .mov (.t 19), none, []⟩] [2, 8, 9, 10, 11, 12, 13, 14, 15, 16, 17, 18, 19]
def R_ranked_check_2 : AC := .ops false [⟨some 6, .mov (.c (.int .i64 2)), none, []⟩] [1, 3, 7]
def R_ranked_check_3 : AC := .ops false [⟨some 21, .load 100 false (.t 3), none, []⟩,
  ⟨some 22, .mov (.t 1), none, []⟩,
  ⟨some 23, .call (.fn 185) [.t 21, .t 22], none, []⟩,
  ⟨some 24, .un .not (.t 23), none, []⟩,
  ⟨some 20, .mov (.t 24), none, []⟩] [1, 3, 7, 21, 22, 23, 24]
def R_ranked_check_4 : AC := .ops false [⟨some 6, .mov (.c (.int .i64 8)), none, []⟩] [20]
def R_ranked_check_5 : AC := .ops false [⟨some 6, .mov (.c (.int .i64 0)), none, []⟩] [20]
def F_ranked_check : AFunc := { ntmps := 25, nargs := 3, kills := [[0, 6], [2, 8, 9, 10, 11, 12, 13, 14, 15, 16, 17, 18, 19], [1, 3, 7], [1, 3, 7, 21, 22, 23, 24], [20], [20]], results := [.t 6], body := (.seq R_ranked_check_0 (.seq (.block 0 (.seq R_ranked_check_1 (.cond (.t 7) (.seq R_ranked_check_2 .ret) (.seq R_ranked_check_3 (.cond (.t 20) (.seq R_ranked_check_4 .ret) .skip))))) (.seq R_ranked_check_5 .ret))) }
abbrev k_ranked_check : Nat := 267
-- slices.SortStableFunc[[]suffrage/api.Link,suffrage/api.Link]
def R_slices_SortStableFunc_0 : AC := .ops false [⟨some 4, .mov (.t 0), none, []⟩,
  ⟨some 5, .mov (.t 0), none, []⟩,
  ⟨some 6, .len (.t 5), none, []⟩,
  ⟨some 7, .mov (.t 1), none, []⟩,
  ⟨some 8, .call (.fn 306) [.t 4, .t 6, .t 7], none, []⟩] [0, 1, 4, 5, 6, 7, 8]
def F_slices_SortStableFunc : AFunc := { ntmps := 9, nargs := 2, kills := [[0, 1, 4, 5, 6, 7, 8]], results := [], body := R_slices_SortStableFunc_0 }
abbrev k_slices_SortStableFunc : Nat := 268
-- suffrage/ranked.Order$1
def R_ranked_Order_1_0 : AC := .ops false [⟨some 2, .box (.t 0), none, []⟩,
  ⟨some 3, .box (.t 1), none, []⟩,
  ⟨some 4, .mov (.c (.int .i64 0)), none, []⟩] [0, 1, 4]
def R_ranked_Order_1_1 : AC := .ops true [⟨some 5, .fa (.t 3) 2, none, []⟩,
  ⟨some 6, .load 1 true (.t 5), none, [0]⟩,
  ⟨some 7, .fa (.t 2) 2, none, []⟩,
  ⟨some 8, .load 1 true (.t 7), none, [2]⟩,
  ⟨some 9, .call (.fn 94) [.t 6, .t 8], none, [1, 3]⟩,
  ⟨some 10, .fa (.t 3) 3, none, []⟩,
  ⟨some 11, .load 1 true (.t 10), none, [5]⟩,
  ⟨some 12, .fa (.t 2) 3, none, []⟩,
  ⟨some 13, .load 1 true (.t 12), none, [7]⟩,
  ⟨some 14, .call (.fn 94) [.t 11, .t 13], none, [6, 8, 4]⟩,
  ⟨some 15, .bslice 1 [.int .i64 0] 2 [(0, .t 9), (1, .t 14)], none, [4, 9]⟩,
  ⟨some 16, .call (.fn 270) [.t 15], none, [10, 9]⟩,
  ⟨some 4, .mov (.t 16), none, [11, 11, 0, 1, 2, 3, 4, 5, 6, 7, 8, 9, 10, 11]⟩] [2, 3, 5, 6, 7, 8, 9, 10, 11, 12, 13, 14, 15, 16]
def F_ranked_Order_1 : AFunc := { ntmps := 17, nargs := 2, kills := [[0, 1, 4], [2, 3, 5, 6, 7, 8, 9, 10, 11, 12, 13, 14, 15, 16]], results := [.t 4], body := (.seq R_ranked_Order_1_0 (.seq R_ranked_Order_1_1 .ret)) }
abbrev k_ranked_Order_1 : Nat := 269
-- cmp.Or[int]
def R_cmp_Or_0 : AC := .ops false [⟨some 2, .mov (.c (.int .i64 0)), none, []⟩] [2]
def R_cmp_Or_1 : AC := .ops false [⟨some 3, .mov (.c (.int .i64 0)), none, []⟩] []
def R_cmp_Or_2 : AC := .ops false [⟨some 6, .mov (.t 0), none, []⟩,
  ⟨some 7, .len (.t 6), none, []⟩,
  ⟨some 8, .mov (.c (.int .i64 0)), none, []⟩] [0]
def R_cmp_Or_3 : AC := .ops false [⟨some 9, .bin .lss (.t 8) (.t 7), none, []⟩] []
def R_cmp_Or_4 : AC := .ops false [⟨some 10, .ia 1 (.t 6) (.t 8), none, []⟩,
  ⟨some 11, .load 1 true (.t 10), none, []⟩,
  ⟨some 5, .mov (.t 11), none, []⟩] [9, 10, 11]
def R_cmp_Or_5 : AC := .ops false [⟨some 12, .mov (.t 5), none, []⟩,
  ⟨some 13, .mov (.t 3), none, []⟩,
  ⟨some 14, .bin .neq (.t 12) (.t 13), none, []⟩] [12, 13]
def R_cmp_Or_6 : AC := .ops false [⟨some 15, .mov (.t 5), none, []⟩,
  ⟨some 2, .mov (.t 15), none, []⟩] [3, 5, 6, 7, 8, 14, 15]
def R_cmp_Or_7 : AC := .ops false [⟨some 16, .bin .add (.t 8) (.c (.int .i64 1)), none, []⟩,
  ⟨some 8, .mov (.t 16), none, []⟩] [5, 14, 16]
def L_cmp_Or_1 : AC := (.seq R_cmp_Or_3 (.seq (.cond (.t 9) .skip (.exit 0)) (.seq (.block 1 (.seq R_cmp_Or_4 (.seq R_cmp_Or_5 (.cond (.t 14) (.seq R_cmp_Or_6 .ret) .skip)))) R_cmp_Or_7)))
def R_cmp_Or_8 : AC := .ops false [⟨some 17, .mov (.t 3), none, []⟩,
  ⟨some 2, .mov (.t 17), none, []⟩] [3, 6, 7, 8, 9, 17]
def F_cmp_Or : AFunc := { ntmps := 18, nargs := 1, kills := [[2], [], [0], [], [9, 10, 11], [12, 13], [3, 5, 6, 7, 8, 14, 15], [5, 14, 16], [3, 6, 7, 8, 9, 17]], results := [.t 2], body := (.seq R_cmp_Or_0 (.seq R_cmp_Or_1 (.seq (.seq R_cmp_Or_2 (.block 0 (.loop L_cmp_Or_1))) (.seq R_cmp_Or_8 .ret)))) }
abbrev k_cmp_Or : Nat := 270
-- suffrage/ranked.Leads$1
def R_ranked_Leads_1_0 : AC := .ops false [⟨some 6, .mov (.c (.bool false)), none, []⟩] [6]
def R_ranked_Leads_1_1 : AC := .ops false [⟨some 9, .load 1 true (.t 1), none, []⟩,
  ⟨some 10, .len (.t 9), none, []⟩,
  ⟨some 11, .mov (.c (.int .i64 0)), none, []⟩] [1]
def R_ranked_Leads_1_2 : AC := .ops false [⟨some 12, .bin .lss (.t 11) (.t 10), none, []⟩] []
def R_ranked_Leads_1_3 : AC := .ops false [⟨some 13, .mov (.t 11), none, []⟩,
  ⟨some 14, .ia 4 (.t 9) (.t 11), none, []⟩,
  ⟨some 15, .load 4 false (.t 14), none, []⟩,
  ⟨some 8, .alloc [.int .i64 0, .int .i64 0, .int .i64 0, .int .i64 0], none, []⟩,
  ⟨some 7, .mov (.t 13), none, []⟩,
  ⟨none, .store 4 (.t 8) (.t 15), none, []⟩] [12, 13, 14, 15]
def R_ranked_Leads_1_4 : AC := .ops false [⟨some 16, .load 1 true (.t 2), none, []⟩,
  ⟨some 17, .mov (.t 7), none, []⟩,
  ⟨some 18, .ia 1 (.t 16) (.t 17), none, []⟩,
  ⟨some 19, .load 1 true (.t 18), none, []⟩,
  ⟨some 20, .mov (.t 19), none, []⟩,
  ⟨some 21, .fa (.t 8) 0, some (20, false), []⟩,
  ⟨some 22, .load 1 true (.t 21), some (20, false), []⟩,
  ⟨some 23, .mov (.t 0), some (20, false), []⟩,
  ⟨some 24, .bin .neq (.t 22) (.t 23), some (20, false), []⟩,
  ⟨some 25, .pick (.t 20) (.c (.bool true)) (.t 24), none, []⟩] [16, 17, 18, 19, 20, 21, 22, 23, 24]
def R_ranked_Leads_1_5 : AC := .ops false [⟨some 26, .load 1 true (.t 2), none, []⟩,
  ⟨some 27, .mov (.t 7), none, []⟩,
  ⟨some 28, .ia 1 (.t 26) (.t 27), none, []⟩,
  ⟨none, .store 1 (.t 28) (.c (.bool true)), none, []⟩] [7, 25, 26, 27, 28]
def R_ranked_Leads_1_6 : AC := .ops false [⟨some 29, .fa (.t 8) 1, none, []⟩,
  ⟨some 30, .load 1 true (.t 29), none, []⟩,
  ⟨some 31, .load 1 true (.t 3), none, []⟩,
  ⟨some 32, .bin .eql (.t 30) (.t 31), none, []⟩,
  ⟨some 33, .mov (.t 32), none, []⟩,
  ⟨some 34, .load 1 true (.t 4), some (33, false), []⟩,
  ⟨some 35, .fa (.t 8) 1, some (33, false), []⟩,
  ⟨some 36, .load 1 true (.t 35), some (33, false), []⟩,
  ⟨some 37, .call (.dyn (.t 34)) [.t 36], some (33, false), []⟩,
  ⟨some 38, .pick (.t 33) (.c (.bool true)) (.t 37), none, []⟩] [8, 29, 30, 31, 32, 33, 34, 35, 36, 37]
def R_ranked_Leads_1_7 : AC := .ops false [⟨some 6, .mov (.c (.bool true)), none, []⟩] [0, 2, 3, 4, 9, 10, 11, 38]
def R_ranked_Leads_1_8 : AC := .ops false [⟨some 39, .bin .add (.t 11) (.c (.int .i64 1)), none, []⟩,
  ⟨some 11, .mov (.t 39), none, []⟩] [7, 8, 25, 38, 39]
def L_ranked_Leads_1_1 : AC := (.seq R_ranked_Leads_1_2 (.seq (.cond (.t 12) .skip (.exit 0)) (.seq (.block 1 (.seq R_ranked_Leads_1_3 (.seq (.seq R_ranked_Leads_1_4 (.cond (.t 25) (.exit 1) .skip)) (.seq R_ranked_Leads_1_5 (.seq R_ranked_Leads_1_6 (.cond (.t 38) (.seq R_ranked_Leads_1_7 .ret) .skip)))))) R_ranked_Leads_1_8)))
def R_ranked_Leads_1_9 : AC := .ops false [⟨some 6, .mov (.c (.bool false)), none, []⟩] [0, 2, 3, 4, 9, 10, 11, 12]
def F_ranked_Leads_1 : AFunc := { ntmps := 40, nargs := 5, kills := [[6], [1], [], [12, 13, 14, 15], [16, 17, 18, 19, 20, 21, 22, 23, 24], [7, 25, 26, 27, 28], [8, 29, 30, 31, 32, 33, 34, 35, 36, 37], [0, 2, 3, 4, 9, 10, 11, 38], [7, 8, 25, 38, 39], [0, 2, 3, 4, 9, 10, 11, 12]], results := [.t 6], body := (.seq R_ranked_Leads_1_0 (.seq (.seq R_ranked_Leads_1_1 (.block 0 (.loop L_ranked_Leads_1_1))) (.seq R_ranked_Leads_1_9 .ret))) }
abbrev k_ranked_Leads_1 : Nat := 271
-- slices.Reverse[[]int,int]
def R_slices_Reverse_0 : AC := .ops false [⟨some 4, .mov (.t 0), none, []⟩,
  ⟨some 5, .len (.t 4), none, []⟩,
  ⟨some 6, .bin .sub (.t 5) (.c (.int .i64 1)), none, []⟩,
  ⟨some 2, .mov (.c (.int .i64 0)), none, []⟩,
  ⟨some 3, .mov (.t 6), none, []⟩] [4, 5, 6]
def R_slices_Reverse_1 : AC := .ops false [⟨some 7, .mov (.t 2), none, []⟩,
  ⟨some 8, .mov (.t 3), none, []⟩,
  ⟨some 9, .bin .lss (.t 7) (.t 8), none, []⟩] [7, 8]
def R_slices_Reverse_3 : AC := .ops true [⟨some 14, .mov (.t 0), none, []⟩,
  ⟨some 15, .mov (.t 2), none, []⟩,
  ⟨some 16, .mov (.t 0), none, []⟩,
  ⟨some 17, .mov (.t 3), none, []⟩,
  ⟨some 18, .mov (.t 0), none, []⟩,
  ⟨some 19, .mov (.t 3), none, []⟩,
  ⟨some 20, .ia 1 (.t 18) (.t 19), none, [4, 5]⟩,
  ⟨some 21, .load 1 true (.t 20), none, [6]⟩,
  ⟨some 22, .mov (.t 0), none, []⟩,
  ⟨some 23, .mov (.t 2), none, []⟩,
  ⟨some 24, .ia 1 (.t 22) (.t 23), none, [8, 9]⟩,
  ⟨some 25, .load 1 true (.t 24), none, [10]⟩,
  ⟨some 26, .ia 1 (.t 14) (.t 15), none, [0, 1, 0, 1, 4, 5, 6, 7, 11]⟩,
  ⟨none, .store 1 (.t 26) (.t 21), none, [12, 7, 0, 1, 4, 5, 6, 7, 11]⟩,
  ⟨some 27, .ia 1 (.t 16) (.t 17), none, [2, 3, 0, 1, 2, 3, 4, 5, 6, 7, 8, 9, 10, 11, 12, 13]⟩,
  ⟨none, .store 1 (.t 27) (.t 25), none, [14, 11, 13, 0, 1, 2, 3, 4, 5, 6, 7, 8, 9, 10, 11, 12, 13]⟩] [9, 14, 15, 16, 17, 18, 19, 20, 21, 22, 23, 24, 25, 26, 27]
def R_slices_Reverse_2 : AC := .ops false [⟨some 10, .mov (.t 2), none, []⟩,
  ⟨some 11, .bin .add (.t 10) (.c (.int .i64 1)), none, []⟩,
  ⟨some 12, .mov (.t 3), none, []⟩,
  ⟨some 13, .bin .sub (.t 12) (.c (.int .i64 1)), none, []⟩,
  ⟨some 2, .mov (.t 11), none, []⟩,
  ⟨some 3, .mov (.t 13), none, []⟩] [10, 11, 12, 13]
def L_slices_Reverse_1 : AC := (.seq (.seq R_slices_Reverse_1 (.cond (.t 9) .skip (.exit 0))) (.seq (.block 1 R_slices_Reverse_3) R_slices_Reverse_2))
def F_slices_Reverse : AFunc := { ntmps := 28, nargs := 1, kills := [[4, 5, 6], [7, 8], [10, 11, 12, 13], [9, 14, 15, 16, 17, 18, 19, 20, 21, 22, 23, 24, 25, 26, 27]], results := [], body := (.seq R_slices_Reverse_0 (.block 0 (.loop L_slices_Reverse_1))) }
abbrev k_slices_Reverse : Nat := 272
-- suffrage/choose.Least$1
def R_choose_Least_1_0 : AC := .ops false [⟨some 3, .mov (.c (.int .i64 0)), none, []⟩] [3]
def R_choose_Least_1_1 : AC := .ops false [⟨some 4, .load 1 true (.t 1), none, []⟩,
  ⟨some 5, .mov (.t 0), none, []⟩,
  ⟨some 6, .call (.dyn (.t 4)) [.t 5], none, []⟩,
  ⟨some 7, .un .neg (.t 6), none, []⟩,
  ⟨some 3, .mov (.t 7), none, []⟩] [0, 1, 4, 5, 6, 7]
def F_choose_Least_1 : AFunc := { ntmps := 8, nargs := 2, kills := [[3], [0, 1, 4, 5, 6, 7]], results := [.t 3], body := (.seq R_choose_Least_1_0 (.seq R_choose_Least_1_1 .ret)) }
abbrev k_choose_Least_1 : Nat := 273
-- suffrage/runoff.Firsts$1
def R_runoff_Firsts_1_0 : AC := .ops false [⟨some 3, .mov (.c (.bool false)), none, []⟩] [3]
def R_runoff_Firsts_1_1 : AC := .ops false [⟨some 4, .mov (.t 0), none, []⟩,
  ⟨some 5, .load 1 true (.t 1), none, []⟩,
  ⟨some 6, .len (.t 5), none, []⟩,
  ⟨some 7, .bin .lss (.t 4) (.t 6), none, []⟩,
  ⟨some 8, .mov (.t 7), none, []⟩,
  ⟨some 9, .load 1 true (.t 1), some (8, true), []⟩,
  ⟨some 10, .mov (.t 0), some (8, true), []⟩,
  ⟨some 11, .ia 1 (.t 9) (.t 10), some (8, true), []⟩,
  ⟨some 12, .load 1 true (.t 11), some (8, true), []⟩,
  ⟨some 13, .pick (.t 8) (.t 12) (.c (.bool false)), none, []⟩,
  ⟨some 3, .mov (.t 13), none, []⟩] [0, 1, 4, 5, 6, 7, 8, 9, 10, 11, 12, 13]
def F_runoff_Firsts_1 : AFunc := { ntmps := 14, nargs := 2, kills := [[3], [0, 1, 4, 5, 6, 7, 8, 9, 10, 11, 12, 13]], results := [.t 3], body := (.seq R_runoff_Firsts_1_0 (.seq R_runoff_Firsts_1_1 .ret)) }
abbrev k_runoff_Firsts_1 : Nat := 274
-- suffrage/quota.may
def R_quota_may_0 : AC := .ops false [⟨some 4, .mov (.c (.bool false)), none, []⟩] [4]
def R_quota_may_1 : AC := .ops false [⟨some 5, .mov (.t 0), none, []⟩,
  ⟨some 6, .call (.fn 307) [.t 5, .c (.int .i64 0), .c (.int .i64 1000000)], none, []⟩,
  ⟨some 7, .mov (.t 6), none, []⟩,
  ⟨some 8, .mov (.t 1), some (7, true), []⟩,
  ⟨some 9, .call (.fn 307) [.t 8, .c (.int .i64 1), .c (.int .i64 10)], some (7, true), []⟩,
  ⟨some 10, .pick (.t 7) (.t 9) (.c (.bool false)), none, []⟩,
  ⟨some 4, .mov (.t 10), none, []⟩] [0, 1, 5, 6, 7, 8, 9, 10]
def F_quota_may : AFunc := { ntmps := 11, nargs := 2, kills := [[4], [0, 1, 5, 6, 7, 8, 9, 10]], results := [.t 4], body := (.seq R_quota_may_0 (.seq R_quota_may_1 .ret)) }
abbrev k_quota_may : Nat := 275
-- (*suffrage/gregory.count).next
def R_gregory_count_next_0 : AC := .ops false [⟨some 2, .box (.t 0), none, []⟩,
  ⟨some 3, .box (.t 1), none, []⟩,
  ⟨some 4, .mov (.c (.int .i64 0)), none, []⟩,
  ⟨some 5, .mov (.c (.bool false)), none, []⟩] [0, 1, 4, 5]
def R_gregory_count_next_1 : AC := .ops false [⟨some 7, .fa (.t 3) 0, none, []⟩,
  ⟨some 8, .load 1 true (.t 7), none, []⟩,
  ⟨some 9, .mkfn 308 [] [.t 2], none, []⟩,
  ⟨some 10, .call (.fn 148) [.t 8, .t 9], none, []⟩,
  ⟨some 6, .mov (.t 10), none, []⟩] [2, 7, 8, 9, 10]
def R_gregory_count_next_2 : AC := .ops false [⟨some 11, .mov (.t 6), none, []⟩,
  ⟨some 12, .bin .lss (.t 11) (.c (.int .i64 0)), none, []⟩] [11]
def R_gregory_count_next_3 : AC := .ops false [⟨some 4, .mov (.c (.int .i64 0)), none, []⟩,
  ⟨some 5, .mov (.c (.bool false)), none, []⟩] [3, 6, 12]
def R_gregory_count_next_4 : AC := .ops false [⟨some 13, .fa (.t 3) 0, none, []⟩,
  ⟨some 14, .load 1 true (.t 13), none, []⟩,
  ⟨some 15, .mov (.t 6), none, []⟩,
  ⟨some 16, .ia 1 (.t 14) (.t 15), none, []⟩,
  ⟨some 17, .load 1 true (.t 16), none, []⟩,
  ⟨some 4, .mov (.t 17), none, []⟩,
  ⟨some 5, .mov (.c (.bool true)), none, []⟩] [3, 6, 12, 13, 14, 15, 16, 17]
def F_gregory_count_next : AFunc := { ntmps := 18, nargs := 2, kills := [[0, 1, 4, 5], [2, 7, 8, 9, 10], [11], [3, 6, 12], [3, 6, 12, 13, 14, 15, 16, 17]], results := [.t 4, .t 5], body := (.seq R_gregory_count_next_0 (.seq R_gregory_count_next_1 (.seq (.seq R_gregory_count_next_2 (.cond (.t 12) (.seq R_gregory_count_next_3 .ret) .skip)) (.seq R_gregory_count_next_4 .ret)))) }
abbrev k_gregory_count_next : Nat := 276
-- suffrage/gregory.Pass
def R_gregory_Pass_0 : AC := .ops false [⟨some 6, .mov (.c (.int .i64 0)), none, []⟩,
  ⟨some 7, .mov (.c (.int .i64 0)), none, []⟩] [6, 7]
def R_gregory_Pass_1 : AC := .ops false [⟨some 10, .mov (.t 0), none, []⟩,
  ⟨some 11, .bin .lss (.t 10) (.c (.int .i64 0)), none, []⟩,
  ⟨some 12, .mov (.t 11), none, []⟩,
  ⟨some 13, .mov (.t 0), some (12, false), []⟩,
  ⟨some 14, .bin .gtr (.t 13) (.c (.int .i64 1000000000)), some (12, false), []⟩,
  ⟨some 15, .pick (.t 12) (.c (.bool true)) (.t 14), none, []⟩,
  ⟨some 16, .mov (.t 15), none, []⟩,
  ⟨some 17, .mov (.t 2), some (16, false), []⟩,
  ⟨some 18, .bin .lss (.t 17) (.c (.int .i64 0)), some (16, false), []⟩,
  ⟨some 19, .pick (.t 16) (.c (.bool true)) (.t 18), none, []⟩,
  ⟨some 20, .mov (.t 19), none, []⟩,
  ⟨some 21, .mov (.t 2), some (20, false), []⟩,
  ⟨some 22, .mov (.t 1), some (20, false), []⟩,
  ⟨some 23, .bin .gtr (.t 21) (.t 22), some (20, false), []⟩,
  ⟨some 24, .pick (.t 20) (.c (.bool true)) (.t 23), none, []⟩] [10, 11, 12, 13, 14, 15, 16, 17, 18, 19, 20, 21, 22, 23]
def R_gregory_Pass_2 : AC := .ops false [⟨some 6, .mov (.c (.int .i64 0)), none, []⟩,
  ⟨some 7, .mov (.c (.int .i64 2)), none, []⟩] [0, 1, 2, 24]
def R_gregory_Pass_3 : AC := .ops false [⟨some 26, .mov (.t 0), none, []⟩,
  ⟨some 27, .mov (.t 1), none, []⟩,
  ⟨some 28, .mov (.t 2), none, []⟩,
  ⟨some 29, .bin .sub (.t 27) (.t 28), none, []⟩,
  ⟨some 30, .mov (.t 1), none, []⟩,
  ⟨some 31, .call (.fn 279) [.t 26, .t 29, .t 30], none, []⟩,
  ⟨some 25, .mov (.t 31), none, []⟩,
  ⟨some 32, .ext (.t 25) 0, none, []⟩,
  ⟨some 33, .ext (.t 25) 1, none, []⟩,
  ⟨some 8, .mov (.t 32), none, []⟩,
  ⟨some 9, .mov (.t 33), none, []⟩] [0, 1, 2, 24, 25, 26, 27, 28, 29, 30, 31, 32, 33]
def R_gregory_Pass_4 : AC := .ops false [⟨some 34, .mov (.t 9), none, []⟩,
  ⟨some 35, .bin .neq (.t 34) (.c (.int .i64 0)), none, []⟩] [9, 34]
def R_gregory_Pass_5 : AC := .ops false [⟨some 6, .mov (.c (.int .i64 0)), none, []⟩,
  ⟨some 7, .mov (.c (.int .i64 2)), none, []⟩] [8, 35]
def R_gregory_Pass_6 : AC := .ops false [⟨some 36, .mov (.t 8), none, []⟩,
  ⟨some 6, .mov (.t 36), none, []⟩,
  ⟨some 7, .mov (.c (.int .i64 0)), none, []⟩] [8, 35, 36]
def F_gregory_Pass : AFunc := { ntmps := 37, nargs := 3, kills := [[6, 7], [10, 11, 12, 13, 14, 15, 16, 17, 18, 19, 20, 21, 22, 23], [0, 1, 2, 24], [0, 1, 2, 24, 25, 26, 27, 28, 29, 30, 31, 32, 33], [9, 34], [8, 35], [8, 35, 36]], results := [.t 6, .t 7], body := (.seq R_gregory_Pass_0 (.seq (.seq R_gregory_Pass_1 (.cond (.t 24) (.seq R_gregory_Pass_2 .ret) .skip)) (.seq R_gregory_Pass_3 (.seq (.seq R_gregory_Pass_4 (.cond (.t 35) (.seq R_gregory_Pass_5 .ret) .skip)) (.seq R_gregory_Pass_6 .ret))))) }
abbrev k_gregory_Pass : Nat := 277
-- (*suffrage/meek.count).leave$1
def R_meek_count_leave_1_0 : AC := .ops false [⟨some 3, .mov (.c (.bool false)), none, []⟩] [3]
def R_meek_count_leave_1_1 : AC := .ops false [⟨some 4, .mov (.t 0), none, []⟩,
  ⟨some 5, .load 1 true (.t 1), none, []⟩,
  ⟨some 6, .bin .eql (.t 4) (.t 5), none, []⟩,
  ⟨some 3, .mov (.t 6), none, []⟩] [0, 1, 4, 5, 6]
def F_meek_count_leave_1 : AFunc := { ntmps := 7, nargs := 2, kills := [[3], [0, 1, 4, 5, 6]], results := [.t 3], body := (.seq R_meek_count_leave_1_0 (.seq R_meek_count_leave_1_1 .ret)) }
abbrev k_meek_count_leave_1 : Nat := 278
-- suffrage/quota.Share
def R_quota_Share_0 : AC := .ops false [⟨some 6, .mov (.c (.int .i64 0)), none, []⟩,
  ⟨some 7, .mov (.c (.int .i64 0)), none, []⟩] [6, 7]
def R_quota_Share_1 : AC := .ops false [⟨some 12, .mov (.t 0), none, []⟩,
  ⟨some 13, .mov (.t 1), none, []⟩,
  ⟨some 14, .mov (.t 2), none, []⟩,
  ⟨some 15, .bslice 1 [.int .i64 0] 3 [(0, .t 12), (1, .t 13), (2, .t 14)], none, []⟩,
  ⟨some 16, .call (.fn 281) [.t 15], none, []⟩,
  ⟨some 17, .un .not (.t 16), none, []⟩,
  ⟨some 11, .mov (.t 17), none, []⟩] [12, 13, 14, 15, 16, 17]
def R_quota_Share_2 : AC := .ops false [⟨some 6, .mov (.c (.int .i64 0)), none, []⟩,
  ⟨some 7, .mov (.c (.int .i64 2)), none, []⟩] [0, 1, 2, 11]
def R_quota_Share_3 : AC := .ops false [⟨some 19, .mov (.t 2), none, []⟩,
  ⟨some 20, .bin .eql (.t 19) (.c (.int .i64 0)), none, []⟩,
  ⟨some 18, .mov (.t 20), none, []⟩] [11, 19, 20]
def R_quota_Share_4 : AC := .ops false [⟨some 6, .mov (.c (.int .i64 0)), none, []⟩,
  ⟨some 7, .mov (.c (.int .i64 40)), none, []⟩] [0, 1, 2, 18]
def R_quota_Share_5 : AC := .ops false [⟨some 22, .mov (.t 0), none, []⟩,
  ⟨some 23, .mov (.t 1), none, []⟩,
  ⟨some 24, .mov (.t 2), none, []⟩,
  ⟨some 25, .call (.fn 309) [.t 22, .t 23, .t 24], none, []⟩,
  ⟨some 21, .mov (.t 25), none, []⟩,
  ⟨some 26, .ext (.t 21) 0, none, []⟩,
  ⟨some 27, .ext (.t 21) 1, none, []⟩,
  ⟨some 28, .ext (.t 21) 2, none, []⟩,
  ⟨some 8, .mov (.t 26), none, []⟩,
  ⟨some 9, .mov (.t 27), none, []⟩,
  ⟨some 10, .mov (.t 28), none, []⟩] [0, 1, 2, 9, 18, 21, 22, 23, 24, 25, 26, 27, 28]
def R_quota_Share_6 : AC := .ops false [⟨some 29, .mov (.t 10), none, []⟩,
  ⟨some 30, .un .not (.t 29), none, []⟩] [10, 29]
def R_quota_Share_7 : AC := .ops false [⟨some 6, .mov (.c (.int .i64 0)), none, []⟩,
  ⟨some 7, .mov (.c (.int .i64 30)), none, []⟩] [8, 30]
def R_quota_Share_8 : AC := .ops false [⟨some 31, .mov (.t 8), none, []⟩,
  ⟨some 6, .mov (.t 31), none, []⟩,
  ⟨some 7, .mov (.c (.int .i64 0)), none, []⟩] [8, 30, 31]
def F_quota_Share : AFunc := { ntmps := 32, nargs := 3, kills := [[6, 7], [12, 13, 14, 15, 16, 17], [0, 1, 2, 11], [11, 19, 20], [0, 1, 2, 18], [0, 1, 2, 9, 18, 21, 22, 23, 24, 25, 26, 27, 28], [10, 29], [8, 30], [8, 30, 31]], results := [.t 6, .t 7], body := (.seq R_quota_Share_0 (.seq (.block 0 (.seq R_quota_Share_1 (.cond (.t 11) (.seq R_quota_Share_2 .ret) (.seq R_quota_Share_3 (.cond (.t 18) (.seq R_quota_Share_4 .ret) .skip))))) (.seq R_quota_Share_5 (.seq (.seq R_quota_Share_6 (.cond (.t 30) (.seq R_quota_Share_7 .ret) .skip)) (.seq R_quota_Share_8 .ret))))) }
abbrev k_quota_Share : Nat := 279
-- suffrage/quota.all
def R_quota_all_0 : AC := .ops false [⟨some 2, .mov (.c (.bool false)), none, []⟩] [2]
def R_quota_all_1 : AC := .ops false [⟨some 5, .mov (.t 0), none, []⟩,
  ⟨some 6, .len (.t 5), none, []⟩,
  ⟨some 7, .mov (.c (.int .i64 0)), none, []⟩] [0]
def R_quota_all_2 : AC := .ops false [⟨some 8, .bin .lss (.t 7) (.t 6), none, []⟩] []
def R_quota_all_3 : AC := .ops false [⟨some 9, .ia 1 (.t 5) (.t 7), none, []⟩,
  ⟨some 10, .load 1 true (.t 9), none, []⟩,
  ⟨some 4, .mov (.t 10), none, []⟩] [8, 9, 10]
def R_quota_all_4 : AC := .ops false [⟨some 11, .mov (.t 4), none, []⟩,
  ⟨some 12, .call (.fn 307) [.t 11, .c (.int .i64 0), .c (.int .i64 1000000000000000)], none, []⟩,
  ⟨some 13, .un .not (.t 12), none, []⟩] [4, 11, 12]
def R_quota_all_5 : AC := .ops false [⟨some 2, .mov (.c (.bool false)), none, []⟩] [5, 6, 7, 13]
def R_quota_all_6 : AC := .ops false [⟨some 14, .bin .add (.t 7) (.c (.int .i64 1)), none, []⟩,
  ⟨some 7, .mov (.t 14), none, []⟩] [13, 14]
def L_quota_all_1 : AC := (.seq R_quota_all_2 (.seq (.cond (.t 8) .skip (.exit 0)) (.seq (.block 1 (.seq R_quota_all_3 (.seq R_quota_all_4 (.cond (.t 13) (.seq R_quota_all_5 .ret) .skip)))) R_quota_all_6)))
def R_quota_all_7 : AC := .ops false [⟨some 2, .mov (.c (.bool true)), none, []⟩] [5, 6, 7, 8]
def F_quota_all : AFunc := { ntmps := 15, nargs := 1, kills := [[2], [0], [], [8, 9, 10], [4, 11, 12], [5, 6, 7, 13], [13, 14], [5, 6, 7, 8]], results := [.t 2], body := (.seq R_quota_all_0 (.seq (.seq R_quota_all_1 (.block 0 (.loop L_quota_all_1))) (.seq R_quota_all_7 .ret))) }
abbrev k_quota_all : Nat := 281
-- (suffrage/ratio.pair).does
def R_ratio_pair_does_0 : AC := .ops false [⟨some 2, .box (.t 0), none, []⟩,
  ⟨some 4, .alloc [.bool false, .lst 0 [] (some 0), .lst 0 [] (some 0)], none, []⟩,
  ⟨some 5, .mov (.c (.int .i64 0)), none, []⟩] [0, 5]
def R_ratio_pair_does_1 : AC := .ops false [⟨some 6, .fa (.t 2) 0, none, []⟩,
  ⟨some 7, .load 3 false (.t 6), none, []⟩,
  ⟨some 8, .call (.fn 247) [.t 7], none, []⟩,
  ⟨some 9, .bin .neq (.t 8) (.c (.int .i64 0)), none, []⟩,
  ⟨some 10, .mov (.t 9), none, []⟩,
  ⟨some 11, .fa (.t 2) 3, some (10, false), []⟩,
  ⟨some 12, .load 3 false (.t 11), some (10, false), []⟩,
  ⟨some 13, .call (.fn 247) [.t 12], some (10, false), []⟩,
  ⟨some 14, .bin .neq (.t 13) (.c (.int .i64 0)), some (10, false), []⟩,
  ⟨some 15, .pick (.t 10) (.c (.bool true)) (.t 14), none, []⟩] [2, 6, 7, 8, 9, 10, 11, 12, 13, 14]
def R_ratio_pair_does_2 : AC := .ops false [⟨some 16, .build [.bool false, .lst 0 [] (some 0), .lst 0 [] (some 0)] [], none, []⟩,
  ⟨none, .store 3 (.t 4) (.t 16), none, []⟩,
  ⟨some 5, .mov (.c (.int .i64 8)), none, []⟩] [1, 15, 16]
def R_ratio_pair_does_3 : AC := .ops false [⟨some 17, .mov (.t 1), none, []⟩,
  ⟨some 18, .call (.dyn (.t 17)) [], none, []⟩,
  ⟨some 19, .ext (.t 18) 0, none, []⟩,
  ⟨some 20, .ext (.t 18) 1, none, []⟩,
  ⟨none, .store 3 (.t 4) (.t 19), none, []⟩,
  ⟨some 5, .mov (.t 20), none, []⟩] [1, 15, 17, 18, 19, 20]
def F_ratio_pair_does : AFunc := { ntmps := 21, nargs := 2, kills := [[0, 5], [2, 6, 7, 8, 9, 10, 11, 12, 13, 14], [1, 15, 16], [1, 15, 17, 18, 19, 20]], results := [.cell 4 3 false, .t 5], body := (.seq R_ratio_pair_does_0 (.seq (.seq R_ratio_pair_does_1 (.cond (.t 15) (.seq R_ratio_pair_does_2 .ret) .skip)) (.seq R_ratio_pair_does_3 .ret))) }
abbrev k_ratio_pair_does : Nat := 282
-- (suffrage/ratio.pair).product
def R_ratio_pair_product_0 : AC := .ops false [⟨some 1, .box (.t 0), none, []⟩,
  ⟨some 2, .alloc [.bool false, .lst 0 [] (some 0), .lst 0 [] (some 0)], none, []⟩,
  ⟨some 3, .mov (.c (.int .i64 0)), none, []⟩] [0, 3]
def R_ratio_pair_product_1 : AC := .ops false [⟨some 7, .fa (.t 1) 0, none, []⟩,
  ⟨some 8, .fa (.t 7) 1, none, []⟩,
  ⟨some 9, .load 1 true (.t 8), none, []⟩,
  ⟨some 10, .fa (.t 1) 3, none, []⟩,
  ⟨some 11, .fa (.t 10) 1, none, []⟩,
  ⟨some 12, .load 1 true (.t 11), none, []⟩,
  ⟨some 13, .call (.fn 293) [.t 9, .t 12], none, []⟩,
  ⟨some 6, .mov (.t 13), none, []⟩,
  ⟨some 14, .ext (.t 6) 0, none, []⟩,
  ⟨some 15, .ext (.t 6) 1, none, []⟩,
  ⟨some 4, .mov (.t 14), none, []⟩,
  ⟨some 3, .mov (.t 15), none, []⟩] [6, 7, 8, 9, 10, 11, 12, 13, 14, 15]
def R_ratio_pair_product_2 : AC := .ops false [⟨some 16, .mov (.t 3), none, []⟩,
  ⟨some 17, .bin .neq (.t 16) (.c (.int .i64 0)), none, []⟩] [16]
def R_ratio_pair_product_3 : AC := .ops false [⟨some 18, .load 3 false (.t 2), none, []⟩,
  ⟨some 19, .mov (.t 3), none, []⟩,
  ⟨none, .store 3 (.t 2) (.t 18), none, []⟩,
  ⟨some 3, .mov (.t 19), none, []⟩] [1, 4, 17, 18, 19]
def R_ratio_pair_product_4 : AC := .ops false [⟨some 21, .fa (.t 1) 0, none, []⟩,
  ⟨some 22, .fa (.t 21) 2, none, []⟩,
  ⟨some 23, .load 1 true (.t 22), none, []⟩,
  ⟨some 24, .fa (.t 1) 3, none, []⟩,
  ⟨some 25, .fa (.t 24) 2, none, []⟩,
  ⟨some 26, .load 1 true (.t 25), none, []⟩,
  ⟨some 27, .call (.fn 293) [.t 23, .t 26], none, []⟩,
  ⟨some 20, .mov (.t 27), none, []⟩,
  ⟨some 28, .ext (.t 20) 0, none, []⟩,
  ⟨some 29, .ext (.t 20) 1, none, []⟩,
  ⟨some 5, .mov (.t 28), none, []⟩,
  ⟨some 3, .mov (.t 29), none, []⟩] [17, 20, 21, 22, 23, 24, 25, 26, 27, 28, 29]
def R_ratio_pair_product_5 : AC := .ops false [⟨some 30, .mov (.t 3), none, []⟩,
  ⟨some 31, .bin .neq (.t 30) (.c (.int .i64 0)), none, []⟩] [30]
def R_ratio_pair_product_6 : AC := .ops false [⟨some 32, .load 3 false (.t 2), none, []⟩,
  ⟨some 33, .mov (.t 3), none, []⟩,
  ⟨none, .store 3 (.t 2) (.t 32), none, []⟩,
  ⟨some 3, .mov (.t 33), none, []⟩] [1, 4, 5, 31, 32, 33]
def R_ratio_pair_product_7 : AC := .ops false [⟨some 34, .fa (.t 1) 0, none, []⟩,
  ⟨some 35, .fa (.t 34) 0, none, []⟩,
  ⟨some 36, .load 1 true (.t 35), none, []⟩,
  ⟨some 37, .fa (.t 1) 3, none, []⟩,
  ⟨some 38, .fa (.t 37) 0, none, []⟩,
  ⟨some 39, .load 1 true (.t 38), none, []⟩,
  ⟨some 40, .beq true (.t 36) (.t 39), none, []⟩,
  ⟨some 41, .mov (.t 4), none, []⟩,
  ⟨some 42, .mov (.t 5), none, []⟩,
  ⟨some 43, .call (.fn 76) [.t 40, .t 41, .t 42], none, []⟩,
  ⟨none, .store 3 (.t 2) (.t 43), none, []⟩,
  ⟨some 3, .mov (.c (.int .i64 0)), none, []⟩] [1, 4, 5, 31, 34, 35, 36, 37, 38, 39, 40, 41, 42, 43]
def F_ratio_pair_product : AFunc := { ntmps := 44, nargs := 1, kills := [[0, 3], [6, 7, 8, 9, 10, 11, 12, 13, 14, 15], [16], [1, 4, 17, 18, 19], [17, 20, 21, 22, 23, 24, 25, 26, 27, 28, 29], [30], [1, 4, 5, 31, 32, 33], [1, 4, 5, 31, 34, 35, 36, 37, 38, 39, 40, 41, 42, 43]], results := [.cell 2 3 false, .t 3], body := (.seq R_ratio_pair_product_0 (.seq R_ratio_pair_product_1 (.seq (.seq R_ratio_pair_product_2 (.cond (.t 17) (.seq R_ratio_pair_product_3 .ret) .skip)) (.seq R_ratio_pair_product_4 (.seq (.seq R_ratio_pair_product_5 (.cond (.t 31) (.seq R_ratio_pair_product_6 .ret) .skip)) (.seq R_ratio_pair_product_7 .ret)))))) }
abbrev k_ratio_pair_product : Nat := 283
-- (suffrage/ratio.pair).sum
def R_ratio_pair_sum_0 : AC := .ops false [⟨some 1, .box (.t 0), none, []⟩,
  ⟨some 2, .alloc [.bool false, .lst 0 [] (some 0), .lst 0 [] (some 0)], none, []⟩,
  ⟨some 3, .mov (.c (.int .i64 0)), none, []⟩] [0, 3]
def R_ratio_pair_sum_1 : AC := .ops false [⟨some 12, .load 6 false (.t 1), none, []⟩,
  ⟨some 13, .call (.fn 249) [.t 12], none, []⟩,
  ⟨some 11, .mov (.t 13), none, []⟩,
  ⟨some 14, .ext (.t 11) 0, none, []⟩,
  ⟨some 15, .ext (.t 11) 1, none, []⟩,
  ⟨some 16, .ext (.t 11) 2, none, []⟩,
  ⟨some 4, .mov (.t 14), none, []⟩,
  ⟨some 5, .mov (.t 15), none, []⟩,
  ⟨some 3, .mov (.t 16), none, []⟩] [11, 12, 13, 14, 15, 16]
def R_ratio_pair_sum_2 : AC := .ops false [⟨some 17, .mov (.t 3), none, []⟩,
  ⟨some 18, .bin .neq (.t 17) (.c (.int .i64 0)), none, []⟩] [17]
def R_ratio_pair_sum_3 : AC := .ops false [⟨some 19, .load 3 false (.t 2), none, []⟩,
  ⟨some 20, .mov (.t 3), none, []⟩,
  ⟨none, .store 3 (.t 2) (.t 19), none, []⟩,
  ⟨some 3, .mov (.t 20), none, []⟩] [1, 4, 5, 18, 19, 20]
def R_ratio_pair_sum_4 : AC := .ops false [⟨some 22, .fa (.t 1) 0, none, []⟩,
  ⟨some 23, .fa (.t 22) 2, none, []⟩,
  ⟨some 24, .load 1 true (.t 23), none, []⟩,
  ⟨some 25, .fa (.t 1) 3, none, []⟩,
  ⟨some 26, .fa (.t 25) 2, none, []⟩,
  ⟨some 27, .load 1 true (.t 26), none, []⟩,
  ⟨some 28, .call (.fn 293) [.t 24, .t 27], none, []⟩,
  ⟨some 21, .mov (.t 28), none, []⟩,
  ⟨some 29, .ext (.t 21) 0, none, []⟩,
  ⟨some 30, .ext (.t 21) 1, none, []⟩,
  ⟨some 6, .mov (.t 29), none, []⟩,
  ⟨some 3, .mov (.t 30), none, []⟩] [18, 21, 22, 23, 24, 25, 26, 27, 28, 29, 30]
def R_ratio_pair_sum_5 : AC := .ops false [⟨some 31, .mov (.t 3), none, []⟩,
  ⟨some 32, .bin .neq (.t 31) (.c (.int .i64 0)), none, []⟩] [31]
def R_ratio_pair_sum_6 : AC := .ops false [⟨some 33, .load 3 false (.t 2), none, []⟩,
  ⟨some 34, .mov (.t 3), none, []⟩,
  ⟨none, .store 3 (.t 2) (.t 33), none, []⟩,
  ⟨some 3, .mov (.t 34), none, []⟩] [1, 4, 5, 6, 32, 33, 34]
def R_ratio_pair_sum_7 : AC := .ops false [⟨some 36, .mov (.t 4), none, []⟩,
  ⟨some 37, .mov (.t 5), none, []⟩,
  ⟨some 38, .call (.fn 250) [.t 36, .t 37], none, []⟩,
  ⟨some 35, .mov (.t 38), none, []⟩,
  ⟨some 39, .ext (.t 35) 0, none, []⟩,
  ⟨some 40, .ext (.t 35) 1, none, []⟩,
  ⟨some 7, .mov (.t 39), none, []⟩,
  ⟨some 8, .mov (.t 40), none, []⟩] [3, 8, 32, 35, 36, 37, 38, 39, 40]
def R_ratio_pair_sum_8 : AC := .ops false [⟨some 41, .fa (.t 1) 0, none, []⟩,
  ⟨some 42, .fa (.t 41) 0, none, []⟩,
  ⟨some 43, .load 1 true (.t 42), none, []⟩,
  ⟨some 44, .bslice 1 [.int .u32 0] 0 [], none, []⟩,
  ⟨some 9, .mov (.t 43), none, []⟩,
  ⟨some 10, .mov (.t 44), none, []⟩] [10, 41, 42, 43, 44]
def R_ratio_pair_sum_9 : AC := .ops false [⟨some 46, .fa (.t 1) 0, none, []⟩,
  ⟨some 47, .fa (.t 46) 0, none, []⟩,
  ⟨some 48, .load 1 true (.t 47), none, []⟩,
  ⟨some 49, .fa (.t 1) 3, none, []⟩,
  ⟨some 50, .fa (.t 49) 0, none, []⟩,
  ⟨some 51, .load 1 true (.t 50), none, []⟩,
  ⟨some 52, .beq false (.t 48) (.t 51), none, []⟩,
  ⟨some 45, .mov (.t 52), none, []⟩] [46, 47, 48, 49, 50, 51, 52]
def R_ratio_pair_sum_10 : AC := .ops false [⟨some 54, .mov (.t 7), none, []⟩,
  ⟨some 55, .bin .lss (.t 54) (.c (.int .i64 0)), none, []⟩,
  ⟨some 53, .mov (.t 55), none, []⟩] [7, 45, 54, 55]
def R_ratio_pair_sum_11 : AC := .ops false [⟨some 57, .mov (.t 4), none, []⟩,
  ⟨some 58, .mov (.t 5), none, []⟩,
  ⟨some 59, .call (.fn 310) [.t 57, .t 58], none, []⟩,
  ⟨some 56, .mov (.t 59), none, []⟩,
  ⟨some 60, .ext (.t 56) 0, none, []⟩,
  ⟨some 61, .ext (.t 56) 1, none, []⟩,
  ⟨some 10, .mov (.t 60), none, []⟩,
  ⟨some 3, .mov (.t 61), none, []⟩] [1, 4, 5, 7, 45, 56, 57, 58, 59, 60, 61]
def R_ratio_pair_sum_12 : AC := .ops true [⟨some 62, .mov (.t 5), none, []⟩,
  ⟨some 63, .mov (.t 4), none, []⟩,
  ⟨some 64, .fa (.t 1) 3, none, []⟩,
  ⟨some 65, .fa (.t 64) 0, none, [2]⟩,
  ⟨some 66, .load 1 true (.t 65), none, [3]⟩,
  ⟨some 4, .mov (.t 62), none, [0, 0, 1]⟩,
  ⟨some 5, .mov (.t 63), none, [1, 5, 0, 1, 5]⟩,
  ⟨some 9, .mov (.t 66), none, [4, 6, 0, 1, 2, 3, 4, 5, 6]⟩] [1, 53, 62, 63, 64, 65, 66]
def R_ratio_pair_sum_13 : AC := .ops false [⟨some 68, .mov (.t 4), none, []⟩,
  ⟨some 69, .mov (.t 5), none, []⟩,
  ⟨some 70, .call (.fn 311) [.t 68, .t 69], none, []⟩,
  ⟨some 67, .mov (.t 70), none, []⟩,
  ⟨some 71, .ext (.t 67) 0, none, []⟩,
  ⟨some 72, .ext (.t 67) 1, none, []⟩,
  ⟨some 10, .mov (.t 71), none, []⟩,
  ⟨some 3, .mov (.t 72), none, []⟩] [1, 4, 5, 53, 67, 68, 69, 70, 71, 72]
def R_ratio_pair_sum_14 : AC := .ops false [⟨some 73, .mov (.t 3), none, []⟩,
  ⟨some 74, .bin .neq (.t 73) (.c (.int .i64 0)), none, []⟩] [73]
def R_ratio_pair_sum_15 : AC := .ops false [⟨some 75, .load 3 false (.t 2), none, []⟩,
  ⟨some 76, .mov (.t 3), none, []⟩,
  ⟨none, .store 3 (.t 2) (.t 75), none, []⟩,
  ⟨some 3, .mov (.t 76), none, []⟩] [6, 9, 10, 74, 75, 76]
def R_ratio_pair_sum_16 : AC := .ops false [⟨some 77, .mov (.t 9), none, []⟩,
  ⟨some 78, .mov (.t 10), none, []⟩,
  ⟨some 79, .mov (.t 6), none, []⟩,
  ⟨some 80, .call (.fn 76) [.t 77, .t 78, .t 79], none, []⟩,
  ⟨none, .store 3 (.t 2) (.t 80), none, []⟩,
  ⟨some 3, .mov (.c (.int .i64 0)), none, []⟩] [6, 9, 10, 74, 77, 78, 79, 80]
def F_ratio_pair_sum : AFunc := { ntmps := 81, nargs := 1, kills := [[0, 3], [11, 12, 13, 14, 15, 16], [17], [1, 4, 5, 18, 19, 20], [18, 21, 22, 23, 24, 25, 26, 27, 28, 29, 30], [31], [1, 4, 5, 6, 32, 33, 34], [3, 8, 32, 35, 36, 37, 38, 39, 40], [10, 41, 42, 43, 44], [46, 47, 48, 49, 50, 51, 52], [7, 45, 54, 55], [1, 4, 5, 7, 45, 56, 57, 58, 59, 60, 61], [1, 53, 62, 63, 64, 65, 66], [1, 4, 5, 53, 67, 68, 69, 70, 71, 72], [73], [6, 9, 10, 74, 75, 76], [6, 9, 10, 74, 77, 78, 79, 80]], results := [.cell 2 3 false, .t 3], body := (.seq R_ratio_pair_sum_0 (.seq R_ratio_pair_sum_1 (.seq (.seq R_ratio_pair_sum_2 (.cond (.t 18) (.seq R_ratio_pair_sum_3 .ret) .skip)) (.seq R_ratio_pair_sum_4 (.seq (.seq R_ratio_pair_sum_5 (.cond (.t 32) (.seq R_ratio_pair_sum_6 .ret) .skip)) (.seq R_ratio_pair_sum_7 (.seq R_ratio_pair_sum_8 (.seq (.block 0 (.seq (.block 3 (.seq (.block 2 (.seq (.block 1 (.seq (.seq (.seq R_ratio_pair_sum_9 (.cond (.t 45) (.exit 1) .skip)) (.seq R_ratio_pair_sum_10 (.cond (.t 53) (.exit 2) .skip))) (.exit 3))) (.seq R_ratio_pair_sum_11 (.exit 0)))) R_ratio_pair_sum_12)) (.seq R_ratio_pair_sum_13 (.exit 0)))) (.seq (.seq R_ratio_pair_sum_14 (.cond (.t 74) (.seq R_ratio_pair_sum_15 .ret) .skip)) (.seq R_ratio_pair_sum_16 .ret)))))))))) }
abbrev k_ratio_pair_sum : Nat := 284
-- (suffrage/ratio.pair).quotient
def R_ratio_pair_quotient_0 : AC := .ops false [⟨some 1, .box (.t 0), none, []⟩,
  ⟨some 2, .alloc [.bool false, .lst 0 [] (some 0), .lst 0 [] (some 0)], none, []⟩,
  ⟨some 3, .mov (.c (.int .i64 0)), none, []⟩] [0, 3]
def R_ratio_pair_quotient_1 : AC := .ops false [⟨some 4, .fa (.t 1) 3, none, []⟩,
  ⟨some 5, .fa (.t 4) 1, none, []⟩,
  ⟨some 6, .load 1 true (.t 5), none, []⟩,
  ⟨some 7, .len (.t 6), none, []⟩,
  ⟨some 8, .bin .eql (.t 7) (.c (.int .i64 0)), none, []⟩] [4, 5, 6, 7]
def R_ratio_pair_quotient_2 : AC := .ops false [⟨some 9, .load 3 false (.t 2), none, []⟩,
  ⟨none, .store 3 (.t 2) (.t 9), none, []⟩,
  ⟨some 3, .mov (.c (.int .i64 40)), none, []⟩] [1, 8, 9]
def R_ratio_pair_quotient_3 : AC := .ops false [⟨some 10, .fa (.t 1) 0, none, []⟩,
  ⟨some 11, .load 3 false (.t 10), none, []⟩,
  ⟨some 12, .fa (.t 1) 3, none, []⟩,
  ⟨some 13, .fa (.t 12) 0, none, []⟩,
  ⟨some 14, .load 1 true (.t 13), none, []⟩,
  ⟨some 15, .fa (.t 1) 3, none, []⟩,
  ⟨some 16, .fa (.t 15) 2, none, []⟩,
  ⟨some 17, .load 1 true (.t 16), none, []⟩,
  ⟨some 18, .fa (.t 1) 3, none, []⟩,
  ⟨some 19, .fa (.t 18) 1, none, []⟩,
  ⟨some 20, .load 1 true (.t 19), none, []⟩,
  ⟨some 21, .build [.bool false, .lst 0 [] (some 0), .lst 0 [] (some 0)] [(0, 1, .t 14), (1, 1, .t 17), (2, 1, .t 20)], none, []⟩,
  ⟨some 22, .build [.bool false, .lst 0 [] (some 0), .lst 0 [] (some 0), .bool false, .lst 0 [] (some 0), .lst 0 [] (some 0)] [(0, 3, .t 11), (3, 3, .t 21)], none, []⟩,
  ⟨some 23, .call (.fn 283) [.t 22], none, []⟩,
  ⟨some 24, .ext (.t 23) 0, none, []⟩,
  ⟨some 25, .ext (.t 23) 1, none, []⟩,
  ⟨none, .store 3 (.t 2) (.t 24), none, []⟩,
  ⟨some 3, .mov (.t 25), none, []⟩] [1, 8, 10, 11, 12, 13, 14, 15, 16, 17, 18, 19, 20, 21, 22, 23, 24, 25]
def F_ratio_pair_quotient : AFunc := { ntmps := 26, nargs := 1, kills := [[0, 3], [4, 5, 6, 7], [1, 8, 9], [1, 8, 10, 11, 12, 13, 14, 15, 16, 17, 18, 19, 20, 21, 22, 23, 24, 25]], results := [.cell 2 3 false, .t 3], body := (.seq R_ratio_pair_quotient_0 (.seq (.seq R_ratio_pair_quotient_1 (.cond (.t 8) (.seq R_ratio_pair_quotient_2 .ret) .skip)) (.seq R_ratio_pair_quotient_3 .ret))) }
abbrev k_ratio_pair_quotient : Nat := 285
-- math/bits.Mul
def R_bits_Mul_0 : AC := .ops false [⟨some 4, .mov (.c (.int .u64 0)), none, []⟩,
  ⟨some 5, .mov (.c (.int .u64 0)), none, []⟩] [4, 5]
def R_bits_Mul_1 : AC := .ops false [⟨some 11, .mov (.t 0), none, []⟩,
  ⟨some 12, .conv .u32 (.t 11), none, []⟩,
  ⟨some 13, .mov (.t 1), none, []⟩,
  ⟨some 14, .conv .u32 (.t 13), none, []⟩,
  ⟨some 15, .call (.fn 312) [.t 12, .t 14], none, []⟩,
  ⟨some 10, .mov (.t 15), none, []⟩,
  ⟨some 16, .ext (.t 10) 0, none, []⟩,
  ⟨some 17, .ext (.t 10) 1, none, []⟩,
  ⟨some 6, .mov (.t 16), none, []⟩,
  ⟨some 7, .mov (.t 17), none, []⟩] [0, 1, 10, 11, 12, 13, 14, 15, 16, 17]
def R_bits_Mul_2 : AC := .ops false [⟨some 18, .mov (.t 6), none, []⟩,
  ⟨some 19, .conv .u64 (.t 18), none, []⟩,
  ⟨some 20, .mov (.t 7), none, []⟩,
  ⟨some 21, .conv .u64 (.t 20), none, []⟩,
  ⟨some 4, .mov (.t 19), none, []⟩,
  ⟨some 5, .mov (.t 21), none, []⟩] [6, 7, 18, 19, 20, 21]
def R_bits_Mul_3 : AC := .ops false [⟨some 23, .mov (.t 0), none, []⟩,
  ⟨some 24, .mov (.t 1), none, []⟩,
  ⟨some 25, .call (.fn 313) [.t 23, .t 24], none, []⟩,
  ⟨some 22, .mov (.t 25), none, []⟩,
  ⟨some 26, .ext (.t 22) 0, none, []⟩,
  ⟨some 27, .ext (.t 22) 1, none, []⟩,
  ⟨some 8, .mov (.t 26), none, []⟩,
  ⟨some 9, .mov (.t 27), none, []⟩] [0, 1, 22, 23, 24, 25, 26, 27]
def R_bits_Mul_4 : AC := .ops false [⟨some 28, .mov (.t 8), none, []⟩,
  ⟨some 29, .mov (.t 9), none, []⟩,
  ⟨some 4, .mov (.t 28), none, []⟩,
  ⟨some 5, .mov (.t 29), none, []⟩] [8, 9, 28, 29]
def F_bits_Mul : AFunc := { ntmps := 30, nargs := 2, kills := [[4, 5], [0, 1, 10, 11, 12, 13, 14, 15, 16, 17], [6, 7, 18, 19, 20, 21], [0, 1, 22, 23, 24, 25, 26, 27], [8, 9, 28, 29]], results := [.t 4, .t 5], body := (.seq R_bits_Mul_0 (.seq (.cond (.c (.bool false)) (.seq R_bits_Mul_1 (.seq R_bits_Mul_2 .ret)) .skip) (.seq R_bits_Mul_3 (.seq R_bits_Mul_4 .ret)))) }
abbrev k_bits_Mul : Nat := 286
-- slices.order2Ordered[int]
def R_slices_order2Ordered_0 : AC := .ops false [⟨some 8, .mov (.c (.int .i64 0)), none, []⟩,
  ⟨some 9, .mov (.c (.int .i64 0)), none, []⟩] [8, 9]
def R_slices_order2Ordered_1 : AC := .ops true [⟨some 10, .mov (.t 0), none, []⟩,
  ⟨some 11, .mov (.t 2), none, []⟩,
  ⟨some 12, .ia 1 (.t 10) (.t 11), none, [0, 1]⟩,
  ⟨some 13, .load 1 true (.t 12), none, [2]⟩,
  ⟨some 14, .mov (.t 0), none, []⟩,
  ⟨some 15, .mov (.t 1), none, []⟩,
  ⟨some 16, .ia 1 (.t 14) (.t 15), none, [4, 5]⟩,
  ⟨some 17, .load 1 true (.t 16), none, [6]⟩,
  ⟨some 18, .call (.fn 156) [.t 13, .t 17], none, [3, 7]⟩] [0, 10, 11, 12, 13, 14, 15, 16, 17]
def R_slices_order2Ordered_2 : AC := .ops false [⟨some 19, .mov (.t 3), none, []⟩,
  ⟨some 20, .nilchk (.t 19), none, []⟩,
  ⟨some 21, .load 1 true (.t 20), none, []⟩,
  ⟨some 22, .bin .add (.t 21) (.c (.int .i64 1)), none, []⟩,
  ⟨some 23, .nilchk (.t 19), none, []⟩,
  ⟨none, .store 1 (.t 23) (.t 22), none, []⟩] [3, 18, 19, 20, 21, 22, 23]
def R_slices_order2Ordered_3 : AC := .ops false [⟨some 24, .mov (.t 2), none, []⟩,
  ⟨some 25, .mov (.t 1), none, []⟩,
  ⟨some 8, .mov (.t 24), none, []⟩,
  ⟨some 9, .mov (.t 25), none, []⟩] [1, 2, 24, 25]
def R_slices_order2Ordered_4 : AC := .ops false [⟨some 26, .mov (.t 1), none, []⟩,
  ⟨some 27, .mov (.t 2), none, []⟩,
  ⟨some 8, .mov (.t 26), none, []⟩,
  ⟨some 9, .mov (.t 27), none, []⟩] [1, 2, 3, 18, 26, 27]
def F_slices_order2Ordered : AFunc := { ntmps := 28, nargs := 4, kills := [[8, 9], [0, 10, 11, 12, 13, 14, 15, 16, 17], [3, 18, 19, 20, 21, 22, 23], [1, 2, 24, 25], [1, 2, 3, 18, 26, 27]], results := [.t 8, .t 9], body := (.seq R_slices_order2Ordered_0 (.seq (.seq R_slices_order2Ordered_1 (.cond (.t 18) (.seq R_slices_order2Ordered_2 (.seq R_slices_order2Ordered_3 .ret)) .skip)) (.seq R_slices_order2Ordered_4 .ret))) }
abbrev k_slices_order2Ordered : Nat := 287
-- suffrage/nat.Check
def R_nat_Check_0 : AC := .ops false [⟨some 2, .mov (.c (.int .i64 0)), none, []⟩] [2]
def R_nat_Check_1 : AC := .ops false [⟨some 4, .mov (.t 0), none, []⟩,
  ⟨some 5, .len (.t 4), none, []⟩,
  ⟨some 3, .mov (.t 5), none, []⟩] [4, 5]
def R_nat_Check_2 : AC := .ops false [⟨some 7, .mov (.t 3), none, []⟩,
  ⟨some 8, .bin .gtr (.t 7) (.c (.int .i64 96)), none, []⟩,
  ⟨some 6, .mov (.t 8), none, []⟩] [7, 8]
def R_nat_Check_3 : AC := .ops false [⟨some 2, .mov (.c (.int .i64 4)), none, []⟩] [0, 3, 6]
def R_nat_Check_4 : AC := .ops false [⟨some 10, .mov (.t 3), none, []⟩,
  ⟨some 11, .bin .gtr (.t 10) (.c (.int .i64 0)), none, []⟩,
  ⟨some 12, .mov (.t 11), none, []⟩,
  ⟨some 13, .mov (.t 0), some (12, true), []⟩,
  ⟨some 14, .mov (.t 3), some (12, true), []⟩,
  ⟨some 15, .bin .sub (.t 14) (.c (.int .i64 1)), some (12, true), []⟩,
  ⟨some 16, .ia 1 (.t 13) (.t 15), some (12, true), []⟩,
  ⟨some 17, .load 1 true (.t 16), some (12, true), []⟩,
  ⟨some 18, .bin .eql (.t 17) (.c (.int .u32 0)), some (12, true), []⟩,
  ⟨some 19, .pick (.t 12) (.t 18) (.c (.bool false)), none, []⟩,
  ⟨some 9, .mov (.t 19), none, []⟩] [0, 3, 6, 10, 11, 12, 13, 14, 15, 16, 17, 18, 19]
def R_nat_Check_5 : AC := .ops false [⟨some 2, .mov (.c (.int .i64 8)), none, []⟩] [9]
def R_nat_Check_6 : AC := .ops false [⟨some 2, .mov (.c (.int .i64 0)), none, []⟩] [9]
def F_nat_Check : AFunc := { ntmps := 20, nargs := 1, kills := [[2], [4, 5], [7, 8], [0, 3, 6], [0, 3, 6, 10, 11, 12, 13, 14, 15, 16, 17, 18, 19], [9], [9]], results := [.t 2], body := (.seq R_nat_Check_0 (.seq (.seq R_nat_Check_1 (.block 0 (.seq R_nat_Check_2 (.cond (.t 6) (.seq R_nat_Check_3 .ret) (.seq R_nat_Check_4 (.cond (.t 9) (.seq R_nat_Check_5 .ret) .skip)))))) (.seq R_nat_Check_6 .ret))) }
abbrev k_nat_Check : Nat := 288
-- suffrage/nat.order
def R_nat_order_0 : AC := .ops false [⟨some 4, .mov (.c (.int .i64 0)), none, []⟩] [4]
def R_nat_order_1 : AC := .ops false [⟨some 6, .mov (.t 0), none, []⟩,
  ⟨some 7, .len (.t 6), none, []⟩,
  ⟨some 8, .mov (.t 1), none, []⟩,
  ⟨some 9, .len (.t 8), none, []⟩,
  ⟨some 10, .bin .neq (.t 7) (.t 9), none, []⟩] [6, 7, 8, 9]
def R_nat_order_2 : AC := .ops false [⟨some 11, .mov (.t 0), none, []⟩,
  ⟨some 12, .len (.t 11), none, []⟩,
  ⟨some 13, .mov (.t 1), none, []⟩,
  ⟨some 14, .len (.t 13), none, []⟩,
  ⟨some 15, .bin .sub (.t 12) (.t 14), none, []⟩,
  ⟨some 16, .min [.c (.int .i64 1), .t 15], none, []⟩,
  ⟨some 17, .max [.c (.int .i64 (-1)), .t 16], none, []⟩,
  ⟨some 4, .mov (.t 17), none, []⟩] [0, 1, 10, 11, 12, 13, 14, 15, 16, 17]
def R_nat_order_3 : AC := .ops false [⟨some 18, .mov (.t 0), none, []⟩,
  ⟨some 19, .len (.t 18), none, []⟩,
  ⟨some 20, .bin .sub (.t 19) (.c (.int .i64 1)), none, []⟩,
  ⟨some 5, .mov (.t 20), none, []⟩] [10, 18, 19, 20]
def R_nat_order_4 : AC := .ops false [⟨some 21, .mov (.t 5), none, []⟩,
  ⟨some 22, .bin .geq (.t 21) (.c (.int .i64 0)), none, []⟩] [21]
def R_nat_order_6 : AC := .ops true [⟨some 26, .mov (.t 0), none, []⟩,
  ⟨some 27, .mov (.t 5), none, []⟩,
  ⟨some 28, .ia 1 (.t 26) (.t 27), none, [0, 1]⟩,
  ⟨some 29, .load 1 true (.t 28), none, [2]⟩,
  ⟨some 30, .mov (.t 1), none, []⟩,
  ⟨some 31, .mov (.t 5), none, []⟩,
  ⟨some 32, .ia 1 (.t 30) (.t 31), none, [4, 5]⟩,
  ⟨some 33, .load 1 true (.t 32), none, [6]⟩,
  ⟨some 34, .bin .lss (.t 29) (.t 33), none, [3, 7]⟩,
  ⟨some 25, .mov (.t 34), none, [8]⟩] [22, 26, 27, 28, 29, 30, 31, 32, 33, 34]
def R_nat_order_7 : AC := .ops false [⟨some 4, .mov (.c (.int .i64 (-1))), none, []⟩] [0, 1, 5, 25]
def R_nat_order_8 : AC := .ops true [⟨some 36, .mov (.t 0), none, []⟩,
  ⟨some 37, .mov (.t 5), none, []⟩,
  ⟨some 38, .ia 1 (.t 36) (.t 37), none, [0, 1]⟩,
  ⟨some 39, .load 1 true (.t 38), none, [2]⟩,
  ⟨some 40, .mov (.t 1), none, []⟩,
  ⟨some 41, .mov (.t 5), none, []⟩,
  ⟨some 42, .ia 1 (.t 40) (.t 41), none, [4, 5]⟩,
  ⟨some 43, .load 1 true (.t 42), none, [6]⟩,
  ⟨some 44, .bin .gtr (.t 39) (.t 43), none, [3, 7]⟩,
  ⟨some 35, .mov (.t 44), none, [8]⟩] [25, 36, 37, 38, 39, 40, 41, 42, 43, 44]
def R_nat_order_9 : AC := .ops false [⟨some 4, .mov (.c (.int .i64 1)), none, []⟩] [0, 1, 5, 35]
def R_nat_order_5 : AC := .ops false [⟨some 23, .mov (.t 5), none, []⟩,
  ⟨some 24, .bin .sub (.t 23) (.c (.int .i64 1)), none, []⟩,
  ⟨some 5, .mov (.t 24), none, []⟩] [23, 24, 35]
def L_nat_order_1 : AC := (.seq (.seq R_nat_order_4 (.cond (.t 22) .skip (.exit 0))) (.seq (.block 1 (.block 2 (.seq R_nat_order_6 (.cond (.t 25) (.seq R_nat_order_7 .ret) (.seq R_nat_order_8 (.cond (.t 35) (.seq R_nat_order_9 .ret) .skip)))))) R_nat_order_5))
def R_nat_order_10 : AC := .ops false [⟨some 4, .mov (.c (.int .i64 0)), none, []⟩] [0, 1, 5, 22]
def F_nat_order : AFunc := { ntmps := 45, nargs := 2, kills := [[4], [6, 7, 8, 9], [0, 1, 10, 11, 12, 13, 14, 15, 16, 17], [10, 18, 19, 20], [21], [23, 24, 35], [22, 26, 27, 28, 29, 30, 31, 32, 33, 34], [0, 1, 5, 25], [25, 36, 37, 38, 39, 40, 41, 42, 43, 44], [0, 1, 5, 35], [0, 1, 5, 22]], results := [.t 4], body := (.seq R_nat_order_0 (.seq (.seq R_nat_order_1 (.cond (.t 10) (.seq R_nat_order_2 .ret) .skip)) (.seq (.seq R_nat_order_3 (.block 0 (.loop L_nat_order_1))) (.seq R_nat_order_10 .ret)))) }
abbrev k_nat_order : Nat := 289
-- suffrage/nat.small
def R_nat_small_0 : AC := .ops false [⟨some 4, .mov (.c (.lst 0 [] (some 0))), none, []⟩,
  ⟨some 5, .mov (.c (.int .u32 0)), none, []⟩] [4]
def R_nat_small_1 : AC := .ops false [⟨some 7, .mov (.t 0), none, []⟩,
  ⟨some 8, .len (.t 7), none, []⟩,
  ⟨some 9, .mkslice 1 4 [.int .u32 0] (.t 8) (.t 8), none, []⟩,
  ⟨some 4, .mov (.t 9), none, []⟩] [7, 8, 9]
def R_nat_small_2 : AC := .ops false [⟨some 10, .mov (.t 0), none, []⟩,
  ⟨some 11, .len (.t 10), none, []⟩,
  ⟨some 12, .bin .sub (.t 11) (.c (.int .i64 1)), none, []⟩,
  ⟨some 6, .mov (.t 12), none, []⟩] [10, 11, 12]
def R_nat_small_3 : AC := .ops false [⟨some 13, .mov (.t 6), none, []⟩,
  ⟨some 14, .bin .geq (.t 13) (.c (.int .i64 0)), none, []⟩] [13]
def R_nat_small_5 : AC := .ops false [⟨some 18, .mov (.t 4), none, []⟩,
  ⟨some 19, .mov (.t 6), none, []⟩,
  ⟨some 20, .mov (.t 5), none, []⟩,
  ⟨some 21, .mov (.t 0), none, []⟩,
  ⟨some 22, .mov (.t 6), none, []⟩,
  ⟨some 23, .ia 1 (.t 21) (.t 22), none, []⟩,
  ⟨some 24, .load 1 true (.t 23), none, []⟩,
  ⟨some 25, .mov (.t 1), none, []⟩,
  ⟨some 26, .call (.fn 314) [.t 20, .t 24, .t 25], none, []⟩,
  ⟨some 17, .mov (.t 26), none, []⟩,
  ⟨some 27, .ext (.t 17) 0, none, []⟩,
  ⟨some 28, .ext (.t 17) 1, none, []⟩,
  ⟨some 29, .ia 1 (.t 18) (.t 19), none, []⟩,
  ⟨none, .store 1 (.t 29) (.t 27), none, []⟩,
  ⟨some 5, .mov (.t 28), none, []⟩] [14, 17, 18, 19, 20, 21, 22, 23, 24, 25, 26, 27, 28, 29]
def R_nat_small_4 : AC := .ops false [⟨some 15, .mov (.t 6), none, []⟩,
  ⟨some 16, .bin .sub (.t 15) (.c (.int .i64 1)), none, []⟩,
  ⟨some 6, .mov (.t 16), none, []⟩] [15, 16]
def L_nat_small_1 : AC := (.seq (.seq R_nat_small_3 (.cond (.t 14) .skip (.exit 0))) (.seq (.block 1 R_nat_small_5) R_nat_small_4))
def R_nat_small_6 : AC := .ops false [⟨some 30, .mov (.t 4), none, []⟩,
  ⟨some 31, .call (.fn 164) [.t 30], none, []⟩,
  ⟨some 32, .mov (.t 5), none, []⟩,
  ⟨some 4, .mov (.t 31), none, []⟩,
  ⟨some 5, .mov (.t 32), none, []⟩] [0, 1, 6, 14, 30, 31, 32]
def F_nat_small : AFunc := { ntmps := 33, nargs := 2, kills := [[4], [7, 8, 9], [10, 11, 12], [13], [15, 16], [14, 17, 18, 19, 20, 21, 22, 23, 24, 25, 26, 27, 28, 29], [0, 1, 6, 14, 30, 31, 32]], results := [.t 4, .t 5], body := (.seq R_nat_small_0 (.seq R_nat_small_1 (.seq (.seq R_nat_small_2 (.block 0 (.loop L_nat_small_1))) (.seq R_nat_small_6 .ret)))) }
abbrev k_nat_small : Nat := 290
-- suffrage/nat.long
def R_nat_long_0 : AC := .ops false [⟨some 4, .mov (.c (.lst 0 [] (some 0))), none, []⟩,
  ⟨some 5, .mov (.c (.lst 0 [] (some 0))), none, []⟩] [4, 5]
def R_nat_long_1 : AC := .ops false [⟨some 14, .mov (.t 1), none, []⟩,
  ⟨some 15, .mov (.t 1), none, []⟩,
  ⟨some 16, .len (.t 15), none, []⟩,
  ⟨some 17, .bin .sub (.t 16) (.c (.int .i64 1)), none, []⟩,
  ⟨some 18, .ia 1 (.t 14) (.t 17), none, []⟩,
  ⟨some 19, .load 1 true (.t 18), none, []⟩,
  ⟨some 20, .call (.fn 315) [.t 19], none, []⟩,
  ⟨some 6, .mov (.t 20), none, []⟩] [14, 15, 16, 17, 18, 19, 20]
def R_nat_long_2 : AC := .ops false [⟨some 21, .mov (.t 0), none, []⟩,
  ⟨some 22, .mov (.t 6), none, []⟩,
  ⟨some 23, .call (.fn 316) [.t 21, .t 22], none, []⟩,
  ⟨some 24, .mov (.t 1), none, []⟩,
  ⟨some 25, .mov (.t 6), none, []⟩,
  ⟨some 26, .call (.fn 316) [.t 24, .t 25], none, []⟩,
  ⟨some 27, .call (.fn 164) [.t 26], none, []⟩,
  ⟨some 7, .mov (.t 23), none, []⟩,
  ⟨some 8, .mov (.t 27), none, []⟩] [0, 1, 21, 22, 23, 24, 25, 26, 27]
def R_nat_long_3 : AC := .ops false [⟨some 28, .mov (.t 8), none, []⟩,
  ⟨some 29, .len (.t 28), none, []⟩,
  ⟨some 9, .mov (.t 29), none, []⟩] [28, 29]
def R_nat_long_4 : AC := .ops false [⟨some 30, .mov (.t 7), none, []⟩,
  ⟨some 31, .len (.t 30), none, []⟩,
  ⟨some 32, .mov (.t 9), none, []⟩,
  ⟨some 33, .bin .sub (.t 31) (.t 32), none, []⟩,
  ⟨some 34, .mkslice 1 4 [.int .u32 0] (.t 33) (.t 33), none, []⟩,
  ⟨some 4, .mov (.t 34), none, []⟩] [30, 31, 32, 33, 34]
def R_nat_long_5 : AC := .ops false [⟨some 35, .mov (.t 4), none, []⟩,
  ⟨some 36, .len (.t 35), none, []⟩,
  ⟨some 37, .bin .sub (.t 36) (.c (.int .i64 1)), none, []⟩,
  ⟨some 10, .mov (.t 37), none, []⟩] [35, 36, 37]
def R_nat_long_6 : AC := .ops false [⟨some 38, .mov (.t 10), none, []⟩,
  ⟨some 39, .bin .geq (.t 38) (.c (.int .i64 0)), none, []⟩] [38]
def R_nat_long_8 : AC := .ops false [⟨some 42, .mov (.t 7), none, []⟩,
  ⟨some 43, .mov (.t 10), none, []⟩,
  ⟨some 44, .mov (.t 10), none, []⟩,
  ⟨some 45, .mov (.t 9), none, []⟩,
  ⟨some 46, .bin .add (.t 44) (.t 45), none, []⟩,
  ⟨some 47, .bin .add (.t 46) (.c (.int .i64 1)), none, []⟩,
  ⟨some 48, .mov (.t 10), none, []⟩,
  ⟨some 49, .mov (.t 9), none, []⟩,
  ⟨some 50, .bin .add (.t 48) (.t 49), none, []⟩,
  ⟨some 51, .bin .add (.t 50) (.c (.int .i64 1)), none, []⟩,
  ⟨some 52, .slice 1 (.t 42) (some (.t 43)) (some (.t 47)) (some (.t 51)), none, []⟩,
  ⟨some 11, .mov (.t 52), none, []⟩] [39, 42, 43, 44, 45, 46, 47, 48, 49, 50, 51, 52]
def R_nat_long_9 : AC := .ops false [⟨some 53, .mov (.t 11), none, []⟩,
  ⟨some 54, .mov (.t 8), none, []⟩,
  ⟨some 55, .call (.fn 317) [.t 53, .t 54], none, []⟩,
  ⟨some 12, .mov (.t 55), none, []⟩] [53, 54, 55]
def R_nat_long_10 : AC := .ops false [⟨some 56, .mov (.t 11), none, []⟩,
  ⟨some 57, .mov (.t 8), none, []⟩,
  ⟨some 58, .mov (.t 12), none, []⟩,
  ⟨some 59, .call (.fn 318) [.t 56, .t 57, .t 58], none, []⟩] [56, 57, 58]
def R_nat_long_11 : AC := .ops false [⟨some 60, .mov (.t 12), none, []⟩,
  ⟨some 61, .bin .sub (.t 60) (.c (.int .u64 1)), none, []⟩,
  ⟨some 12, .mov (.t 61), none, []⟩] [59, 60, 61]
def R_nat_long_12 : AC := .ops false [⟨some 62, .mov (.t 11), none, []⟩,
  ⟨some 63, .mov (.t 8), none, []⟩,
  ⟨some 64, .call (.fn 319) [.t 62, .t 63], none, []⟩] [11, 62, 63, 64]
def R_nat_long_13 : AC := .ops false [⟨some 65, .mov (.t 4), none, []⟩,
  ⟨some 66, .mov (.t 10), none, []⟩,
  ⟨some 67, .mov (.t 12), none, []⟩,
  ⟨some 68, .conv .u32 (.t 67), none, []⟩,
  ⟨some 69, .ia 1 (.t 65) (.t 66), none, []⟩,
  ⟨none, .store 1 (.t 69) (.t 68), none, []⟩] [11, 12, 59, 65, 66, 67, 68, 69]
def R_nat_long_7 : AC := .ops false [⟨some 40, .mov (.t 10), none, []⟩,
  ⟨some 41, .bin .sub (.t 40) (.c (.int .i64 1)), none, []⟩,
  ⟨some 10, .mov (.t 41), none, []⟩] [40, 41]
def L_nat_long_1 : AC := (.seq (.seq R_nat_long_6 (.cond (.t 39) .skip (.exit 0))) (.seq (.block 1 (.seq R_nat_long_8 (.seq R_nat_long_9 (.seq (.seq R_nat_long_10 (.cond (.t 59) (.seq R_nat_long_11 R_nat_long_12) .skip)) R_nat_long_13)))) R_nat_long_7))
def R_nat_long_14 : AC := .ops false [⟨some 70, .mov (.t 9), none, []⟩,
  ⟨some 71, .mkslice 1 4 [.int .u32 0] (.t 70) (.t 70), none, []⟩,
  ⟨some 5, .mov (.t 71), none, []⟩] [8, 9, 10, 39, 70, 71]
def R_nat_long_15 : AC := .ops false [⟨some 72, .mov (.t 5), none, []⟩,
  ⟨some 73, .len (.t 72), none, []⟩,
  ⟨some 74, .mov (.c (.int .i64 0)), none, []⟩] [72]
def R_nat_long_16 : AC := .ops false [⟨some 75, .bin .lss (.t 74) (.t 73), none, []⟩] []
def R_nat_long_17 : AC := .ops false [⟨some 76, .mov (.t 74), none, []⟩,
  ⟨some 13, .mov (.t 76), none, []⟩] [75, 76]
def R_nat_long_18 : AC := .ops true [⟨some 77, .mov (.t 5), none, []⟩,
  ⟨some 78, .mov (.t 13), none, []⟩,
  ⟨some 79, .mov (.t 7), none, []⟩,
  ⟨some 80, .mov (.t 13), none, []⟩,
  ⟨some 81, .bin .add (.t 80) (.c (.int .i64 1)), none, [3]⟩,
  ⟨some 82, .ia 1 (.t 79) (.t 81), none, [2, 4]⟩,
  ⟨some 83, .load 1 true (.t 82), none, [5]⟩,
  ⟨some 84, .conv .u64 (.t 83), none, [6]⟩,
  ⟨some 85, .bin .shl (.t 84) (.c (.int .u64 32)), none, [7]⟩,
  ⟨some 86, .mov (.t 7), none, []⟩,
  ⟨some 87, .mov (.t 13), none, []⟩,
  ⟨some 88, .ia 1 (.t 86) (.t 87), none, [9, 10]⟩,
  ⟨some 89, .load 1 true (.t 88), none, [11]⟩,
  ⟨some 90, .conv .u64 (.t 89), none, [12]⟩,
  ⟨some 91, .bin .or (.t 85) (.t 90), none, [8, 13]⟩,
  ⟨some 92, .mov (.t 6), none, []⟩,
  ⟨some 93, .bin .shr (.t 91) (.t 92), none, [14, 15]⟩,
  ⟨some 94, .conv .u32 (.t 93), none, [16]⟩,
  ⟨some 95, .ia 1 (.t 77) (.t 78), none, [0, 1, 0, 1, 2, 3, 4, 5, 6, 7, 8, 9, 10, 11, 12, 13, 14, 15, 16, 17]⟩,
  ⟨none, .store 1 (.t 95) (.t 94), none, [18, 17, 0, 1, 2, 3, 4, 5, 6, 7, 8, 9, 10, 11, 12, 13, 14, 15, 16, 17]⟩] [13, 77, 78, 79, 80, 81, 82, 83, 84, 85, 86, 87, 88, 89, 90, 91, 92, 93, 94, 95]
def R_nat_long_19 : AC := .ops false [⟨some 96, .bin .add (.t 74) (.c (.int .i64 1)), none, []⟩,
  ⟨some 74, .mov (.t 96), none, []⟩] [96]
def L_nat_long_2 : AC := (.seq R_nat_long_16 (.seq (.cond (.t 75) .skip (.exit 2)) (.seq (.block 3 (.seq R_nat_long_17 R_nat_long_18)) R_nat_long_19)))
def R_nat_long_20 : AC := .ops false [⟨some 97, .mov (.t 4), none, []⟩,
  ⟨some 98, .call (.fn 164) [.t 97], none, []⟩,
  ⟨some 99, .mov (.t 5), none, []⟩,
  ⟨some 100, .call (.fn 164) [.t 99], none, []⟩,
  ⟨some 4, .mov (.t 98), none, []⟩,
  ⟨some 5, .mov (.t 100), none, []⟩] [6, 7, 73, 74, 75, 97, 98, 99, 100]
def F_nat_long : AFunc := { ntmps := 101, nargs := 2, kills := [[4, 5], [14, 15, 16, 17, 18, 19, 20], [0, 1, 21, 22, 23, 24, 25, 26, 27], [28, 29], [30, 31, 32, 33, 34], [35, 36, 37], [38], [40, 41], [39, 42, 43, 44, 45, 46, 47, 48, 49, 50, 51, 52], [53, 54, 55], [56, 57, 58], [59, 60, 61], [11, 62, 63, 64], [11, 12, 59, 65, 66, 67, 68, 69], [8, 9, 10, 39, 70, 71], [72], [], [75, 76], [13, 77, 78, 79, 80, 81, 82, 83, 84, 85, 86, 87, 88, 89, 90, 91, 92, 93, 94, 95], [96], [6, 7, 73, 74, 75, 97, 98, 99, 100]], results := [.t 4, .t 5], body := (.seq R_nat_long_0 (.seq R_nat_long_1 (.seq R_nat_long_2 (.seq R_nat_long_3 (.seq R_nat_long_4 (.seq (.seq R_nat_long_5 (.block 0 (.loop L_nat_long_1))) (.seq R_nat_long_14 (.seq (.seq R_nat_long_15 (.block 2 (.loop L_nat_long_2))) (.seq R_nat_long_20 .ret))))))))) }
abbrev k_nat_long : Nat := 291
-- suffrage/nat.Same
def R_nat_Same_0 : AC := .ops false [⟨some 4, .mov (.c (.bool false)), none, []⟩] [4]
def R_nat_Same_1 : AC := .ops false [⟨some 5, .mov (.t 0), none, []⟩,
  ⟨some 6, .mov (.t 1), none, []⟩,
  ⟨some 7, .call (.fn 320) [.t 5, .t 6], none, []⟩,
  ⟨some 4, .mov (.t 7), none, []⟩] [0, 1, 5, 6, 7]
def F_nat_Same : AFunc := { ntmps := 8, nargs := 2, kills := [[4], [0, 1, 5, 6, 7]], results := [.t 4], body := (.seq R_nat_Same_0 (.seq R_nat_Same_1 .ret)) }
abbrev k_nat_Same : Nat := 292
-- suffrage/nat.Mul
def R_nat_Mul_0 : AC := .ops false [⟨some 4, .mov (.c (.lst 0 [] (some 0))), none, []⟩,
  ⟨some 5, .mov (.c (.int .i64 0)), none, []⟩] [4, 5]
def R_nat_Mul_1 : AC := .ops false [⟨some 10, .mov (.t 0), none, []⟩,
  ⟨some 11, .mov (.t 1), none, []⟩,
  ⟨some 12, .call (.fn 245) [.t 10, .t 11], none, []⟩,
  ⟨some 6, .mov (.t 12), none, []⟩] [10, 11, 12]
def R_nat_Mul_2 : AC := .ops false [⟨some 13, .mov (.t 6), none, []⟩,
  ⟨some 14, .bin .neq (.t 13) (.c (.int .i64 0)), none, []⟩] [13]
def R_nat_Mul_3 : AC := .ops false [⟨some 15, .mov (.t 6), none, []⟩,
  ⟨some 4, .mov (.c (.lst 0 [] (some 0))), none, []⟩,
  ⟨some 5, .mov (.t 15), none, []⟩] [0, 1, 6, 14, 15]
def R_nat_Mul_4 : AC := .ops false [⟨some 16, .mov (.t 0), none, []⟩,
  ⟨some 17, .len (.t 16), none, []⟩,
  ⟨some 18, .mov (.t 1), none, []⟩,
  ⟨some 19, .len (.t 18), none, []⟩,
  ⟨some 20, .bin .add (.t 17) (.t 19), none, []⟩,
  ⟨some 21, .bin .add (.t 20) (.c (.int .i64 1)), none, []⟩,
  ⟨some 22, .mkslice 1 4 [.int .u32 0] (.t 21) (.t 21), none, []⟩,
  ⟨some 7, .mov (.t 22), none, []⟩] [6, 14, 16, 17, 18, 19, 20, 21, 22]
def R_nat_Mul_5 : AC := .ops false [⟨some 23, .mov (.t 1), none, []⟩,
  ⟨some 24, .len (.t 23), none, []⟩,
  ⟨some 25, .mov (.c (.int .i64 0)), none, []⟩] [1]
def R_nat_Mul_6 : AC := .ops false [⟨some 26, .bin .lss (.t 25) (.t 24), none, []⟩] []
def R_nat_Mul_7 : AC := .ops false [⟨some 27, .mov (.t 25), none, []⟩,
  ⟨some 28, .ia 1 (.t 23) (.t 25), none, []⟩,
  ⟨some 29, .load 1 true (.t 28), none, []⟩,
  ⟨some 8, .mov (.t 27), none, []⟩,
  ⟨some 9, .mov (.t 29), none, []⟩] [26, 27, 28, 29]
def R_nat_Mul_8 : AC := .ops false [⟨some 30, .mov (.t 7), none, []⟩,
  ⟨some 31, .mov (.t 8), none, []⟩,
  ⟨some 32, .slice 1 (.t 30) (some (.t 31)) none none, none, []⟩,
  ⟨some 33, .mov (.t 0), none, []⟩,
  ⟨some 34, .mov (.t 9), none, []⟩,
  ⟨some 35, .call (.fn 321) [.t 32, .t 33, .t 34], none, []⟩] [8, 9, 30, 31, 32, 33, 34, 35]
def R_nat_Mul_9 : AC := .ops false [⟨some 36, .bin .add (.t 25) (.c (.int .i64 1)), none, []⟩,
  ⟨some 25, .mov (.t 36), none, []⟩] [36]
def L_nat_Mul_1 : AC := (.seq R_nat_Mul_6 (.seq (.cond (.t 26) .skip (.exit 0)) (.seq (.block 1 (.seq R_nat_Mul_7 R_nat_Mul_8)) R_nat_Mul_9)))
def R_nat_Mul_10 : AC := .ops false [⟨some 37, .mov (.t 7), none, []⟩,
  ⟨some 38, .call (.fn 322) [.t 37], none, []⟩,
  ⟨some 39, .ext (.t 38) 0, none, []⟩,
  ⟨some 40, .ext (.t 38) 1, none, []⟩,
  ⟨some 4, .mov (.t 39), none, []⟩,
  ⟨some 5, .mov (.t 40), none, []⟩] [0, 7, 23, 24, 25, 26, 37, 38, 39, 40]
def F_nat_Mul : AFunc := { ntmps := 41, nargs := 2, kills := [[4, 5], [10, 11, 12], [13], [0, 1, 6, 14, 15], [6, 14, 16, 17, 18, 19, 20, 21, 22], [1], [], [26, 27, 28, 29], [8, 9, 30, 31, 32, 33, 34, 35], [36], [0, 7, 23, 24, 25, 26, 37, 38, 39, 40]], results := [.t 4, .t 5], body := (.seq R_nat_Mul_0 (.seq (.seq R_nat_Mul_1 (.seq R_nat_Mul_2 (.cond (.t 14) (.seq R_nat_Mul_3 .ret) .skip))) (.seq R_nat_Mul_4 (.seq (.seq R_nat_Mul_5 (.block 0 (.loop L_nat_Mul_1))) (.seq R_nat_Mul_10 .ret))))) }
abbrev k_nat_Mul : Nat := 293
-- (*suffrage/choose.Count).Seats$1
def R_choose_Count_Seats_1_0 : AC := .ops false [⟨some 3, .mov (.c (.int .i64 0)), none, []⟩] [3]
def R_choose_Count_Seats_1_1 : AC := .ops false [⟨some 4, .load 1 true (.t 1), none, []⟩,
  ⟨some 5, .mov (.t 0), none, []⟩,
  ⟨some 6, .ia 1 (.t 4) (.t 5), none, []⟩,
  ⟨some 7, .load 1 true (.t 6), none, []⟩,
  ⟨some 3, .mov (.t 7), none, []⟩] [0, 1, 4, 5, 6, 7]
def F_choose_Count_Seats_1 : AFunc := { ntmps := 8, nargs := 2, kills := [[3], [0, 1, 4, 5, 6, 7]], results := [.t 3], body := (.seq R_choose_Count_Seats_1_0 (.seq R_choose_Count_Seats_1_1 .ret)) }
abbrev k_choose_Count_Seats_1 : Nat := 304
-- (*suffrage/choose.Count).Seats$2
def R_choose_Count_Seats_2_0 : AC := .ops false [⟨some 3, .mov (.c (.bool false)), none, []⟩] [3]
def R_choose_Count_Seats_2_1 : AC := .ops false [⟨some 4, .mov (.t 0), none, []⟩,
  ⟨some 5, .load 1 true (.t 1), none, []⟩,
  ⟨some 6, .bin .eql (.t 4) (.t 5), none, []⟩,
  ⟨some 3, .mov (.t 6), none, []⟩] [0, 1, 4, 5, 6]
def F_choose_Count_Seats_2 : AFunc := { ntmps := 7, nargs := 2, kills := [[3], [0, 1, 4, 5, 6]], results := [.t 3], body := (.seq R_choose_Count_Seats_2_0 (.seq R_choose_Count_Seats_2_1 .ret)) }
abbrev k_choose_Count_Seats_2 : Nat := 305
-- slices.stableCmpFunc[suffrage/api.Link]
def R_slices_stableCmpFunc_0 : AC := .ops false [⟨some 6, .mov (.c (.int .i64 20)), none, []⟩] []
def R_slices_stableCmpFunc_1 : AC := .ops false [⟨some 10, .mov (.t 6), none, []⟩,
  ⟨some 7, .mov (.c (.int .i64 0)), none, []⟩,
  ⟨some 8, .mov (.t 10), none, []⟩] [10]
def R_slices_stableCmpFunc_2 : AC := .ops false [⟨some 11, .mov (.t 8), none, []⟩,
  ⟨some 12, .mov (.t 1), none, []⟩,
  ⟨some 13, .bin .leq (.t 11) (.t 12), none, []⟩] [11, 12]
def R_slices_stableCmpFunc_3 : AC := .ops false [⟨some 14, .mov (.t 0), none, []⟩,
  ⟨some 15, .mov (.t 7), none, []⟩,
  ⟨some 16, .mov (.t 8), none, []⟩,
  ⟨some 17, .mov (.t 2), none, []⟩,
  ⟨some 18, .call (.fn 327) [.t 14, .t 15, .t 16, .t 17], none, []⟩] [7, 13, 14, 15, 16, 17, 18]
def R_slices_stableCmpFunc_4 : AC := .ops false [⟨some 19, .mov (.t 8), none, []⟩,
  ⟨some 7, .mov (.t 19), none, []⟩] [19]
def R_slices_stableCmpFunc_5 : AC := .ops false [⟨some 20, .mov (.t 8), none, []⟩,
  ⟨some 21, .mov (.t 6), none, []⟩,
  ⟨some 22, .bin .add (.t 20) (.t 21), none, []⟩,
  ⟨some 8, .mov (.t 22), none, []⟩] [20, 21, 22]
def L_slices_stableCmpFunc_1 : AC := (.seq (.seq R_slices_stableCmpFunc_2 (.cond (.t 13) .skip (.exit 0))) (.block 1 (.seq R_slices_stableCmpFunc_3 (.seq R_slices_stableCmpFunc_4 R_slices_stableCmpFunc_5))))
def R_slices_stableCmpFunc_6 : AC := .ops false [⟨some 23, .mov (.t 0), none, []⟩,
  ⟨some 24, .mov (.t 7), none, []⟩,
  ⟨some 25, .mov (.t 1), none, []⟩,
  ⟨some 26, .mov (.t 2), none, []⟩,
  ⟨some 27, .call (.fn 327) [.t 23, .t 24, .t 25, .t 26], none, []⟩] [7, 8, 13, 23, 24, 25, 26, 27]
def R_slices_stableCmpFunc_7 : AC := .ops false [⟨some 28, .mov (.t 6), none, []⟩,
  ⟨some 29, .mov (.t 1), none, []⟩,
  ⟨some 30, .bin .lss (.t 28) (.t 29), none, []⟩] [28, 29]
def R_slices_stableCmpFunc_8 : AC := .ops false [⟨some 31, .mov (.t 6), none, []⟩,
  ⟨some 32, .bin .mul (.c (.int .i64 2)) (.t 31), none, []⟩,
  ⟨some 7, .mov (.c (.int .i64 0)), none, []⟩,
  ⟨some 8, .mov (.t 32), none, []⟩] [30, 31, 32]
def R_slices_stableCmpFunc_9 : AC := .ops false [⟨some 33, .mov (.t 8), none, []⟩,
  ⟨some 34, .mov (.t 1), none, []⟩,
  ⟨some 35, .bin .leq (.t 33) (.t 34), none, []⟩] [33, 34]
def R_slices_stableCmpFunc_10 : AC := .ops false [⟨some 36, .mov (.t 0), none, []⟩,
  ⟨some 37, .mov (.t 7), none, []⟩,
  ⟨some 38, .mov (.t 7), none, []⟩,
  ⟨some 39, .mov (.t 6), none, []⟩,
  ⟨some 40, .bin .add (.t 38) (.t 39), none, []⟩,
  ⟨some 41, .mov (.t 8), none, []⟩,
  ⟨some 42, .mov (.t 2), none, []⟩,
  ⟨some 43, .call (.fn 328) [.t 36, .t 37, .t 40, .t 41, .t 42], none, []⟩] [7, 35, 36, 37, 38, 39, 40, 41, 42, 43]
def R_slices_stableCmpFunc_11 : AC := .ops false [⟨some 44, .mov (.t 8), none, []⟩,
  ⟨some 7, .mov (.t 44), none, []⟩] [44]
def R_slices_stableCmpFunc_12 : AC := .ops false [⟨some 45, .mov (.t 8), none, []⟩,
  ⟨some 46, .mov (.t 6), none, []⟩,
  ⟨some 47, .bin .mul (.c (.int .i64 2)) (.t 46), none, []⟩,
  ⟨some 48, .bin .add (.t 45) (.t 47), none, []⟩,
  ⟨some 8, .mov (.t 48), none, []⟩] [45, 46, 47, 48]
def L_slices_stableCmpFunc_2 : AC := (.seq (.seq R_slices_stableCmpFunc_9 (.cond (.t 35) .skip (.exit 4))) (.block 5 (.seq R_slices_stableCmpFunc_10 (.seq R_slices_stableCmpFunc_11 R_slices_stableCmpFunc_12))))
def R_slices_stableCmpFunc_13 : AC := .ops false [⟨some 49, .mov (.t 7), none, []⟩,
  ⟨some 50, .mov (.t 6), none, []⟩,
  ⟨some 51, .bin .add (.t 49) (.t 50), none, []⟩,
  ⟨some 9, .mov (.t 51), none, []⟩] [8, 35, 49, 50, 51]
def R_slices_stableCmpFunc_14 : AC := .ops false [⟨some 52, .mov (.t 9), none, []⟩,
  ⟨some 53, .mov (.t 1), none, []⟩,
  ⟨some 54, .bin .lss (.t 52) (.t 53), none, []⟩] [52, 53]
def R_slices_stableCmpFunc_15 : AC := .ops false [⟨some 55, .mov (.t 0), none, []⟩,
  ⟨some 56, .mov (.t 7), none, []⟩,
  ⟨some 57, .mov (.t 9), none, []⟩,
  ⟨some 58, .mov (.t 1), none, []⟩,
  ⟨some 59, .mov (.t 2), none, []⟩,
  ⟨some 60, .call (.fn 328) [.t 55, .t 56, .t 57, .t 58, .t 59], none, []⟩] [7, 9, 54, 55, 56, 57, 58, 59, 60]
def R_slices_stableCmpFunc_16 : AC := .ops false [⟨some 61, .mov (.t 6), none, []⟩,
  ⟨some 62, .bin .mul (.t 61) (.c (.int .i64 2)), none, []⟩,
  ⟨some 6, .mov (.t 62), none, []⟩] [7, 9, 54, 61, 62]
def L_slices_stableCmpFunc_3 : AC := (.seq (.seq R_slices_stableCmpFunc_7 (.cond (.t 30) .skip (.exit 2))) (.block 3 (.seq R_slices_stableCmpFunc_8 (.seq (.block 4 (.loop L_slices_stableCmpFunc_2)) (.seq (.seq R_slices_stableCmpFunc_13 (.seq R_slices_stableCmpFunc_14 (.cond (.t 54) R_slices_stableCmpFunc_15 .skip))) R_slices_stableCmpFunc_16)))))
def F_slices_stableCmpFunc : AFunc := { ntmps := 63, nargs := 3, kills := [[], [10], [11, 12], [7, 13, 14, 15, 16, 17, 18], [19], [20, 21, 22], [7, 8, 13, 23, 24, 25, 26, 27], [28, 29], [30, 31, 32], [33, 34], [7, 35, 36, 37, 38, 39, 40, 41, 42, 43], [44], [45, 46, 47, 48], [8, 35, 49, 50, 51], [52, 53], [7, 9, 54, 55, 56, 57, 58, 59, 60], [7, 9, 54, 61, 62]], results := [], body := (.seq R_slices_stableCmpFunc_0 (.seq R_slices_stableCmpFunc_1 (.seq (.block 0 (.loop L_slices_stableCmpFunc_1)) (.seq R_slices_stableCmpFunc_6 (.block 2 (.loop L_slices_stableCmpFunc_3)))))) }
abbrev k_slices_stableCmpFunc : Nat := 306
-- suffrage/quota.within
def R_quota_within_0 : AC := .ops false [⟨some 6, .mov (.c (.bool false)), none, []⟩] [6]
def R_quota_within_1 : AC := .ops false [⟨some 7, .mov (.t 0), none, []⟩,
  ⟨some 8, .mov (.t 1), none, []⟩,
  ⟨some 9, .bin .geq (.t 7) (.t 8), none, []⟩,
  ⟨some 10, .mov (.t 9), none, []⟩,
  ⟨some 11, .mov (.t 0), some (10, true), []⟩,
  ⟨some 12, .mov (.t 2), some (10, true), []⟩,
  ⟨some 13, .bin .leq (.t 11) (.t 12), some (10, true), []⟩,
  ⟨some 14, .pick (.t 10) (.t 13) (.c (.bool false)), none, []⟩,
  ⟨some 6, .mov (.t 14), none, []⟩] [0, 1, 2, 7, 8, 9, 10, 11, 12, 13, 14]
def F_quota_within : AFunc := { ntmps := 15, nargs := 3, kills := [[6], [0, 1, 2, 7, 8, 9, 10, 11, 12, 13, 14]], results := [.t 6], body := (.seq R_quota_within_0 (.seq R_quota_within_1 .ret)) }
abbrev k_quota_within : Nat := 307
-- (*suffrage/gregory.count).next$1
def R_gregory_count_next_1_0 : AC := .ops false [⟨some 3, .mov (.c (.bool false)), none, []⟩] [3]
def R_gregory_count_next_1_1 : AC := .ops false [⟨some 4, .load 1 true (.t 1), none, []⟩,
  ⟨some 5, .nilchk (.t 4), none, []⟩,
  ⟨some 6, .fa (.t 5) 2, none, []⟩,
  ⟨some 7, .load 1 true (.t 6), none, []⟩,
  ⟨some 8, .mov (.t 0), none, []⟩,
  ⟨some 9, .ia 1 (.t 7) (.t 8), none, []⟩,
  ⟨some 10, .load 1 true (.t 9), none, []⟩,
  ⟨some 11, .call (.meth (.t 10) [(203, 211), (212, 361), (295, 363)]) [], none, []⟩,
  ⟨some 3, .mov (.t 11), none, []⟩] [0, 1, 4, 5, 6, 7, 8, 9, 10, 11]
def F_gregory_count_next_1 : AFunc := { ntmps := 12, nargs := 2, kills := [[3], [0, 1, 4, 5, 6, 7, 8, 9, 10, 11]], results := [.t 3], body := (.seq R_gregory_count_next_1_0 (.seq R_gregory_count_next_1_1 .ret)) }
abbrev k_gregory_count_next_1 : Nat := 308
-- suffrage/quota.product
def R_quota_product_0 : AC := .ops false [⟨some 6, .mov (.c (.int .i64 0)), none, []⟩,
  ⟨some 7, .mov (.c (.int .i64 0)), none, []⟩,
  ⟨some 8, .mov (.c (.bool false)), none, []⟩] [6, 7, 8]
def R_quota_product_1 : AC := .ops false [⟨some 9, .alloc [.int .u64 0, .int .u64 0], none, []⟩] []
def R_quota_product_2 : AC := .ops false [⟨some 13, .mov (.t 0), none, []⟩,
  ⟨some 14, .conv .u64 (.t 13), none, []⟩,
  ⟨some 15, .mov (.t 1), none, []⟩,
  ⟨some 16, .conv .u64 (.t 15), none, []⟩,
  ⟨some 17, .call (.fn 313) [.t 14, .t 16], none, []⟩,
  ⟨some 12, .mov (.t 17), none, []⟩,
  ⟨some 18, .ext (.t 12) 0, none, []⟩,
  ⟨some 19, .ext (.t 12) 1, none, []⟩,
  ⟨some 20, .iaa 1 2 (.t 9) (.c (.int .i64 1)), none, []⟩,
  ⟨none, .store 1 (.t 20) (.t 18), none, []⟩,
  ⟨some 21, .iaa 1 2 (.t 9) (.c (.int .i64 0)), none, []⟩,
  ⟨none, .store 1 (.t 21) (.t 19), none, []⟩] [0, 1, 12, 13, 14, 15, 16, 17, 18, 19, 20, 21]
def R_quota_product_3 : AC := .ops false [⟨some 22, .iaa 1 2 (.t 9) (.c (.int .i64 1)), none, []⟩,
  ⟨some 23, .load 1 true (.t 22), none, []⟩,
  ⟨some 24, .mov (.t 2), none, []⟩,
  ⟨some 25, .conv .u64 (.t 24), none, []⟩,
  ⟨some 26, .bin .geq (.t 23) (.t 25), none, []⟩] [22, 23, 24, 25]
def R_quota_product_4 : AC := .ops false [⟨some 6, .mov (.c (.int .i64 0)), none, []⟩,
  ⟨some 7, .mov (.c (.int .i64 0)), none, []⟩,
  ⟨some 8, .mov (.c (.bool false)), none, []⟩] [2, 9, 26]
def R_quota_product_5 : AC := .ops false [⟨some 28, .iaa 1 2 (.t 9) (.c (.int .i64 1)), none, []⟩,
  ⟨some 29, .load 1 true (.t 28), none, []⟩,
  ⟨some 30, .iaa 1 2 (.t 9) (.c (.int .i64 0)), none, []⟩,
  ⟨some 31, .load 1 true (.t 30), none, []⟩,
  ⟨some 32, .mov (.t 2), none, []⟩,
  ⟨some 33, .conv .u64 (.t 32), none, []⟩,
  ⟨some 34, .call (.fn 329) [.t 29, .t 31, .t 33], none, []⟩,
  ⟨some 27, .mov (.t 34), none, []⟩,
  ⟨some 35, .ext (.t 27) 0, none, []⟩,
  ⟨some 36, .ext (.t 27) 1, none, []⟩,
  ⟨some 10, .mov (.t 35), none, []⟩,
  ⟨some 11, .mov (.t 36), none, []⟩] [2, 9, 26, 27, 28, 29, 30, 31, 32, 33, 34, 35, 36]
def R_quota_product_6 : AC := .ops false [⟨some 37, .mov (.t 10), none, []⟩,
  ⟨some 38, .min [.t 37, .c (.int .u64 1000000000000001)], none, []⟩,
  ⟨some 39, .conv .i64 (.t 38), none, []⟩,
  ⟨some 40, .mov (.t 11), none, []⟩,
  ⟨some 41, .conv .i64 (.t 40), none, []⟩,
  ⟨some 42, .mov (.t 10), none, []⟩,
  ⟨some 43, .bin .leq (.t 42) (.c (.int .u64 1000000000000000)), none, []⟩,
  ⟨some 6, .mov (.t 39), none, []⟩,
  ⟨some 7, .mov (.t 41), none, []⟩,
  ⟨some 8, .mov (.t 43), none, []⟩] [10, 11, 37, 38, 39, 40, 41, 42, 43]
def F_quota_product : AFunc := { ntmps := 44, nargs := 3, kills := [[6, 7, 8], [], [0, 1, 12, 13, 14, 15, 16, 17, 18, 19, 20, 21], [22, 23, 24, 25], [2, 9, 26], [2, 9, 26, 27, 28, 29, 30, 31, 32, 33, 34, 35, 36], [10, 11, 37, 38, 39, 40, 41, 42, 43]], results := [.t 6, .t 7, .t 8], body := (.seq R_quota_product_0 (.seq R_quota_product_1 (.seq R_quota_product_2 (.seq (.seq R_quota_product_3 (.cond (.t 26) (.seq R_quota_product_4 .ret) .skip)) (.seq R_quota_product_5 (.seq R_quota_product_6 .ret)))))) }
abbrev k_quota_product : Nat := 309
-- suffrage/nat.Add
def R_nat_Add_0 : AC := .ops false [⟨some 4, .mov (.c (.lst 0 [] (some 0))), none, []⟩,
  ⟨some 5, .mov (.c (.int .i64 0)), none, []⟩] [4, 5]
def R_nat_Add_1 : AC := .ops false [⟨some 10, .mov (.t 0), none, []⟩,
  ⟨some 11, .mov (.t 1), none, []⟩,
  ⟨some 12, .call (.fn 245) [.t 10, .t 11], none, []⟩,
  ⟨some 6, .mov (.t 12), none, []⟩] [10, 11, 12]
def R_nat_Add_2 : AC := .ops false [⟨some 13, .mov (.t 6), none, []⟩,
  ⟨some 14, .bin .neq (.t 13) (.c (.int .i64 0)), none, []⟩] [13]
def R_nat_Add_3 : AC := .ops false [⟨some 15, .mov (.t 6), none, []⟩,
  ⟨some 4, .mov (.c (.lst 0 [] (some 0))), none, []⟩,
  ⟨some 5, .mov (.t 15), none, []⟩] [0, 1, 6, 14, 15]
def R_nat_Add_4 : AC := .ops false [⟨some 16, .mov (.t 0), none, []⟩,
  ⟨some 17, .len (.t 16), none, []⟩,
  ⟨some 18, .mov (.t 1), none, []⟩,
  ⟨some 19, .len (.t 18), none, []⟩,
  ⟨some 20, .max [.t 17, .t 19], none, []⟩,
  ⟨some 21, .bin .add (.t 20) (.c (.int .i64 1)), none, []⟩,
  ⟨some 22, .mkslice 1 4 [.int .u32 0] (.t 21) (.t 21), none, []⟩,
  ⟨some 7, .mov (.t 22), none, []⟩] [6, 14, 16, 17, 18, 19, 20, 21, 22]
def R_nat_Add_5 : AC := .ops false [⟨some 8, .mov (.c (.int .u32 0)), none, []⟩] []
def R_nat_Add_6 : AC := .ops false [⟨some 23, .mov (.t 7), none, []⟩,
  ⟨some 24, .len (.t 23), none, []⟩,
  ⟨some 25, .mov (.c (.int .i64 0)), none, []⟩] [23]
def R_nat_Add_7 : AC := .ops false [⟨some 26, .bin .lss (.t 25) (.t 24), none, []⟩] []
def R_nat_Add_8 : AC := .ops false [⟨some 27, .mov (.t 25), none, []⟩,
  ⟨some 9, .mov (.t 27), none, []⟩] [26, 27]
def R_nat_Add_9 : AC := .ops false [⟨some 29, .mov (.t 7), none, []⟩,
  ⟨some 30, .mov (.t 9), none, []⟩,
  ⟨some 31, .mov (.t 0), none, []⟩,
  ⟨some 32, .mov (.t 9), none, []⟩,
  ⟨some 33, .call (.fn 331) [.t 31, .t 32], none, []⟩,
  ⟨some 34, .mov (.t 1), none, []⟩,
  ⟨some 35, .mov (.t 9), none, []⟩,
  ⟨some 36, .call (.fn 331) [.t 34, .t 35], none, []⟩,
  ⟨some 37, .mov (.t 8), none, []⟩,
  ⟨some 38, .call (.fn 330) [.t 33, .t 36, .t 37], none, []⟩,
  ⟨some 28, .mov (.t 38), none, []⟩,
  ⟨some 39, .ext (.t 28) 0, none, []⟩,
  ⟨some 40, .ext (.t 28) 1, none, []⟩,
  ⟨some 41, .ia 1 (.t 29) (.t 30), none, []⟩,
  ⟨none, .store 1 (.t 41) (.t 39), none, []⟩,
  ⟨some 8, .mov (.t 40), none, []⟩] [9, 28, 29, 30, 31, 32, 33, 34, 35, 36, 37, 38, 39, 40, 41]
def R_nat_Add_10 : AC := .ops false [⟨some 42, .bin .add (.t 25) (.c (.int .i64 1)), none, []⟩,
  ⟨some 25, .mov (.t 42), none, []⟩] [42]
def L_nat_Add_1 : AC := (.seq R_nat_Add_7 (.seq (.cond (.t 26) .skip (.exit 0)) (.seq (.block 1 (.seq R_nat_Add_8 R_nat_Add_9)) R_nat_Add_10)))
def R_nat_Add_11 : AC := .ops false [⟨some 43, .mov (.t 7), none, []⟩,
  ⟨some 44, .call (.fn 322) [.t 43], none, []⟩,
  ⟨some 45, .ext (.t 44) 0, none, []⟩,
  ⟨some 46, .ext (.t 44) 1, none, []⟩,
  ⟨some 4, .mov (.t 45), none, []⟩,
  ⟨some 5, .mov (.t 46), none, []⟩] [0, 1, 7, 8, 24, 25, 26, 43, 44, 45, 46]
def F_nat_Add : AFunc := { ntmps := 47, nargs := 2, kills := [[4, 5], [10, 11, 12], [13], [0, 1, 6, 14, 15], [6, 14, 16, 17, 18, 19, 20, 21, 22], [], [23], [], [26, 27], [9, 28, 29, 30, 31, 32, 33, 34, 35, 36, 37, 38, 39, 40, 41], [42], [0, 1, 7, 8, 24, 25, 26, 43, 44, 45, 46]], results := [.t 4, .t 5], body := (.seq R_nat_Add_0 (.seq (.seq R_nat_Add_1 (.seq R_nat_Add_2 (.cond (.t 14) (.seq R_nat_Add_3 .ret) .skip))) (.seq R_nat_Add_4 (.seq R_nat_Add_5 (.seq (.seq R_nat_Add_6 (.block 0 (.loop L_nat_Add_1))) (.seq R_nat_Add_11 .ret)))))) }
abbrev k_nat_Add : Nat := 310
-- suffrage/nat.Sub
def R_nat_Sub_0 : AC := .ops false [⟨some 4, .mov (.c (.lst 0 [] (some 0))), none, []⟩,
  ⟨some 5, .mov (.c (.int .i64 0)), none, []⟩] [4, 5]
def R_nat_Sub_1 : AC := .ops false [⟨some 7, .mov (.t 0), none, []⟩,
  ⟨some 8, .mov (.t 1), none, []⟩,
  ⟨some 9, .call (.fn 245) [.t 7, .t 8], none, []⟩,
  ⟨some 6, .mov (.t 9), none, []⟩] [7, 8, 9]
def R_nat_Sub_2 : AC := .ops false [⟨some 10, .mov (.t 6), none, []⟩,
  ⟨some 11, .bin .neq (.t 10) (.c (.int .i64 0)), none, []⟩] [10]
def R_nat_Sub_3 : AC := .ops false [⟨some 12, .mov (.t 6), none, []⟩,
  ⟨some 4, .mov (.c (.lst 0 [] (some 0))), none, []⟩,
  ⟨some 5, .mov (.t 12), none, []⟩] [0, 1, 6, 11, 12]
def R_nat_Sub_4 : AC := .ops false [⟨some 13, .mov (.t 0), none, []⟩,
  ⟨some 14, .mov (.t 1), none, []⟩,
  ⟨some 15, .call (.fn 289) [.t 13, .t 14], none, []⟩,
  ⟨some 16, .bin .lss (.t 15) (.c (.int .i64 0)), none, []⟩] [6, 11, 13, 14, 15]
def R_nat_Sub_5 : AC := .ops false [⟨some 4, .mov (.c (.lst 0 [] (some 0))), none, []⟩,
  ⟨some 5, .mov (.c (.int .i64 6)), none, []⟩] [0, 1, 16]
def R_nat_Sub_6 : AC := .ops false [⟨some 17, .mov (.t 0), none, []⟩,
  ⟨some 18, .mov (.t 1), none, []⟩,
  ⟨some 19, .call (.fn 332) [.t 17, .t 18], none, []⟩,
  ⟨some 4, .mov (.t 19), none, []⟩,
  ⟨some 5, .mov (.c (.int .i64 0)), none, []⟩] [0, 1, 16, 17, 18, 19]
def F_nat_Sub : AFunc := { ntmps := 20, nargs := 2, kills := [[4, 5], [7, 8, 9], [10], [0, 1, 6, 11, 12], [6, 11, 13, 14, 15], [0, 1, 16], [0, 1, 16, 17, 18, 19]], results := [.t 4, .t 5], body := (.seq R_nat_Sub_0 (.seq (.seq R_nat_Sub_1 (.seq R_nat_Sub_2 (.cond (.t 11) (.seq R_nat_Sub_3 .ret) .skip))) (.seq (.seq R_nat_Sub_4 (.cond (.t 16) (.seq R_nat_Sub_5 .ret) .skip)) (.seq R_nat_Sub_6 .ret)))) }
abbrev k_nat_Sub : Nat := 311
-- math/bits.Mul32
def R_bits_Mul32_0 : AC := .ops false [⟨some 4, .mov (.c (.int .u32 0)), none, []⟩,
  ⟨some 5, .mov (.c (.int .u32 0)), none, []⟩] [4, 5]
def R_bits_Mul32_1 : AC := .ops false [⟨some 7, .mov (.t 0), none, []⟩,
  ⟨some 8, .conv .u64 (.t 7), none, []⟩,
  ⟨some 9, .mov (.t 1), none, []⟩,
  ⟨some 10, .conv .u64 (.t 9), none, []⟩,
  ⟨some 11, .bin .mul (.t 8) (.t 10), none, []⟩,
  ⟨some 6, .mov (.t 11), none, []⟩] [0, 1, 7, 8, 9, 10, 11]
def R_bits_Mul32_2 : AC := .ops false [⟨some 12, .mov (.t 6), none, []⟩,
  ⟨some 13, .bin .shr (.t 12) (.c (.int .u64 32)), none, []⟩,
  ⟨some 14, .conv .u32 (.t 13), none, []⟩,
  ⟨some 15, .mov (.t 6), none, []⟩,
  ⟨some 16, .conv .u32 (.t 15), none, []⟩,
  ⟨some 4, .mov (.t 14), none, []⟩,
  ⟨some 5, .mov (.t 16), none, []⟩] [6, 12, 13, 14, 15, 16]
def F_bits_Mul32 : AFunc := { ntmps := 17, nargs := 2, kills := [[4, 5], [0, 1, 7, 8, 9, 10, 11], [6, 12, 13, 14, 15, 16]], results := [.t 4, .t 5], body := (.seq R_bits_Mul32_0 (.seq R_bits_Mul32_1 (.seq R_bits_Mul32_2 .ret))) }
abbrev k_bits_Mul32 : Nat := 312
-- math/bits.Mul64
def R_bits_Mul64_0 : AC := .ops false [⟨some 4, .mov (.c (.int .u64 0)), none, []⟩,
  ⟨some 5, .mov (.c (.int .u64 0)), none, []⟩] [4, 5]
def R_bits_Mul64_1 : AC := .ops false [⟨some 14, .mov (.t 0), none, []⟩,
  ⟨some 15, .bin .and (.t 14) (.c (.int .u64 4294967295)), none, []⟩,
  ⟨some 6, .mov (.t 15), none, []⟩] [14, 15]
def R_bits_Mul64_2 : AC := .ops false [⟨some 16, .mov (.t 0), none, []⟩,
  ⟨some 17, .bin .shr (.t 16) (.c (.int .u64 32)), none, []⟩,
  ⟨some 7, .mov (.t 17), none, []⟩] [16, 17]
def R_bits_Mul64_3 : AC := .ops false [⟨some 18, .mov (.t 1), none, []⟩,
  ⟨some 19, .bin .and (.t 18) (.c (.int .u64 4294967295)), none, []⟩,
  ⟨some 8, .mov (.t 19), none, []⟩] [18, 19]
def R_bits_Mul64_4 : AC := .ops false [⟨some 20, .mov (.t 1), none, []⟩,
  ⟨some 21, .bin .shr (.t 20) (.c (.int .u64 32)), none, []⟩,
  ⟨some 9, .mov (.t 21), none, []⟩] [20, 21]
def R_bits_Mul64_5 : AC := .ops false [⟨some 22, .mov (.t 6), none, []⟩,
  ⟨some 23, .mov (.t 8), none, []⟩,
  ⟨some 24, .bin .mul (.t 22) (.t 23), none, []⟩,
  ⟨some 10, .mov (.t 24), none, []⟩] [22, 23, 24]
def R_bits_Mul64_6 : AC := .ops false [⟨some 25, .mov (.t 7), none, []⟩,
  ⟨some 26, .mov (.t 8), none, []⟩,
  ⟨some 27, .bin .mul (.t 25) (.t 26), none, []⟩,
  ⟨some 28, .mov (.t 10), none, []⟩,
  ⟨some 29, .bin .shr (.t 28) (.c (.int .u64 32)), none, []⟩,
  ⟨some 30, .bin .add (.t 27) (.t 29), none, []⟩,
  ⟨some 11, .mov (.t 30), none, []⟩] [8, 10, 25, 26, 27, 28, 29, 30]
def R_bits_Mul64_7 : AC := .ops false [⟨some 31, .mov (.t 11), none, []⟩,
  ⟨some 32, .bin .and (.t 31) (.c (.int .u64 4294967295)), none, []⟩,
  ⟨some 12, .mov (.t 32), none, []⟩] [31, 32]
def R_bits_Mul64_8 : AC := .ops false [⟨some 33, .mov (.t 11), none, []⟩,
  ⟨some 34, .bin .shr (.t 33) (.c (.int .u64 32)), none, []⟩,
  ⟨some 13, .mov (.t 34), none, []⟩] [11, 33, 34]
def R_bits_Mul64_9 : AC := .ops false [⟨some 35, .mov (.t 12), none, []⟩,
  ⟨some 36, .mov (.t 6), none, []⟩,
  ⟨some 37, .mov (.t 9), none, []⟩,
  ⟨some 38, .bin .mul (.t 36) (.t 37), none, []⟩,
  ⟨some 39, .bin .add (.t 35) (.t 38), none, []⟩,
  ⟨some 12, .mov (.t 39), none, []⟩] [6, 35, 36, 37, 38, 39]
def R_bits_Mul64_10 : AC := .ops false [⟨some 40, .mov (.t 7), none, []⟩,
  ⟨some 41, .mov (.t 9), none, []⟩,
  ⟨some 42, .bin .mul (.t 40) (.t 41), none, []⟩,
  ⟨some 43, .mov (.t 13), none, []⟩,
  ⟨some 44, .bin .add (.t 42) (.t 43), none, []⟩,
  ⟨some 45, .mov (.t 12), none, []⟩,
  ⟨some 46, .bin .shr (.t 45) (.c (.int .u64 32)), none, []⟩,
  ⟨some 47, .bin .add (.t 44) (.t 46), none, []⟩,
  ⟨some 4, .mov (.t 47), none, []⟩] [7, 9, 12, 13, 40, 41, 42, 43, 44, 45, 46, 47]
def R_bits_Mul64_11 : AC := .ops false [⟨some 48, .mov (.t 0), none, []⟩,
  ⟨some 49, .mov (.t 1), none, []⟩,
  ⟨some 50, .bin .mul (.t 48) (.t 49), none, []⟩,
  ⟨some 5, .mov (.t 50), none, []⟩] [0, 1, 48, 49, 50]
def F_bits_Mul64 : AFunc := { ntmps := 51, nargs := 2, kills := [[4, 5], [14, 15], [16, 17], [18, 19], [20, 21], [22, 23, 24], [8, 10, 25, 26, 27, 28, 29, 30], [31, 32], [11, 33, 34], [6, 35, 36, 37, 38, 39], [7, 9, 12, 13, 40, 41, 42, 43, 44, 45, 46, 47], [0, 1, 48, 49, 50]], results := [.t 4, .t 5], body := (.seq R_bits_Mul64_0 (.seq R_bits_Mul64_1 (.seq R_bits_Mul64_2 (.seq R_bits_Mul64_3 (.seq R_bits_Mul64_4 (.seq R_bits_Mul64_5 (.seq R_bits_Mul64_6 (.seq R_bits_Mul64_7 (.seq R_bits_Mul64_8 (.seq R_bits_Mul64_9 (.seq R_bits_Mul64_10 (.seq R_bits_Mul64_11 .ret)))))))))))) }
abbrev k_bits_Mul64 : Nat := 313
-- math/bits.Div32
def R_bits_Div32_0 : AC := .ops false [⟨some 6, .mov (.c (.int .u32 0)), none, []⟩,
  ⟨some 7, .mov (.c (.int .u32 0)), none, []⟩] [6, 7]
def R_bits_Div32_1 : AC := .ops false [⟨some 9, .mov (.t 2), none, []⟩,
  ⟨some 10, .bin .neq (.t 9) (.c (.int .u32 0)), none, []⟩,
  ⟨some 11, .mov (.t 10), none, []⟩,
  ⟨some 12, .mov (.t 2), some (11, true), []⟩,
  ⟨some 13, .mov (.t 0), some (11, true), []⟩,
  ⟨some 14, .bin .leq (.t 12) (.t 13), some (11, true), []⟩,
  ⟨some 15, .pick (.t 11) (.t 14) (.c (.bool false)), none, []⟩] [9, 10, 11, 12, 13, 14]
def R_bits_Div32_2 : AC := .ops false [⟨some 16, .load 1 true (.g 0), none, []⟩,
  ⟨none, .no, none, []⟩] [15, 16]
def R_bits_Div32_3 : AC := .ops false [⟨some 17, .mov (.t 0), none, []⟩,
  ⟨some 18, .conv .u64 (.t 17), none, []⟩,
  ⟨some 19, .bin .shl (.t 18) (.c (.int .u64 32)), none, []⟩,
  ⟨some 20, .mov (.t 1), none, []⟩,
  ⟨some 21, .conv .u64 (.t 20), none, []⟩,
  ⟨some 22, .bin .or (.t 19) (.t 21), none, []⟩,
  ⟨some 8, .mov (.t 22), none, []⟩] [0, 1, 15, 17, 18, 19, 20, 21, 22]
def R_bits_Div32_4 : AC := .ops true [⟨some 23, .mov (.t 8), none, []⟩,
  ⟨some 24, .mov (.t 2), none, []⟩,
  ⟨some 25, .conv .u64 (.t 24), none, [1]⟩,
  ⟨some 26, .bin .quo (.t 23) (.t 25), none, [0, 2]⟩,
  ⟨some 27, .conv .u32 (.t 26), none, [3]⟩,
  ⟨some 28, .mov (.t 8), none, []⟩,
  ⟨some 29, .mov (.t 2), none, []⟩,
  ⟨some 30, .conv .u64 (.t 29), none, [6]⟩,
  ⟨some 31, .bin .rem (.t 28) (.t 30), none, [5, 7]⟩,
  ⟨some 32, .conv .u32 (.t 31), none, [8]⟩,
  ⟨some 6, .mov (.t 27), none, [4, 0, 1, 2, 3, 4]⟩,
  ⟨some 7, .mov (.t 32), none, [9, 10, 0, 1, 2, 3, 4, 5, 6, 7, 8, 9, 10]⟩] [2, 8, 23, 24, 25, 26, 27, 28, 29, 30, 31, 32]
def F_bits_Div32 : AFunc := { ntmps := 33, nargs := 3, kills := [[6, 7], [9, 10, 11, 12, 13, 14], [15, 16], [0, 1, 15, 17, 18, 19, 20, 21, 22], [2, 8, 23, 24, 25, 26, 27, 28, 29, 30, 31, 32]], results := [.t 6, .t 7], body := (.seq R_bits_Div32_0 (.seq (.seq R_bits_Div32_1 (.cond (.t 15) R_bits_Div32_2 .skip)) (.seq R_bits_Div32_3 (.seq R_bits_Div32_4 .ret)))) }
abbrev k_bits_Div32 : Nat := 314
-- math/bits.LeadingZeros32
def R_bits_LeadingZeros32_0 : AC := .ops false [⟨some 2, .mov (.c (.int .i64 0)), none, []⟩] [2]
def R_bits_LeadingZeros32_1 : AC := .ops false [⟨some 3, .mov (.t 0), none, []⟩,
  ⟨some 4, .call (.fn 159) [.t 3], none, []⟩,
  ⟨some 5, .bin .sub (.c (.int .i64 32)) (.t 4), none, []⟩,
  ⟨some 2, .mov (.t 5), none, []⟩] [0, 3, 4, 5]
def F_bits_LeadingZeros32 : AFunc := { ntmps := 6, nargs := 1, kills := [[2], [0, 3, 4, 5]], results := [.t 2], body := (.seq R_bits_LeadingZeros32_0 (.seq R_bits_LeadingZeros32_1 .ret)) }
abbrev k_bits_LeadingZeros32 : Nat := 315
-- suffrage/nat.shifted
def R_nat_shifted_0 : AC := .ops false [⟨some 4, .mov (.c (.lst 0 [] (some 0))), none, []⟩] [4]
def R_nat_shifted_1 : AC := .ops false [⟨some 7, .mov (.t 0), none, []⟩,
  ⟨some 8, .len (.t 7), none, []⟩,
  ⟨some 9, .bin .add (.t 8) (.c (.int .i64 1)), none, []⟩,
  ⟨some 10, .mkslice 1 4 [.int .u32 0] (.t 9) (.t 9), none, []⟩,
  ⟨some 5, .mov (.t 10), none, []⟩] [7, 8, 9, 10]
def R_nat_shifted_2 : AC := .ops false [⟨some 11, .mov (.t 5), none, []⟩,
  ⟨some 12, .mov (.t 0), none, []⟩,
  ⟨some 13, .copy 1 (.t 11) (.t 12), none, []⟩] [11, 12, 13]
def R_nat_shifted_3 : AC := .ops false [⟨some 14, .mov (.t 0), none, []⟩,
  ⟨some 15, .len (.t 14), none, []⟩,
  ⟨some 6, .mov (.t 15), none, []⟩] [0, 14, 15]
def R_nat_shifted_4 : AC := .ops false [⟨some 16, .mov (.t 6), none, []⟩,
  ⟨some 17, .bin .geq (.t 16) (.c (.int .i64 0)), none, []⟩] [16]
def R_nat_shifted_6 : AC := .ops false [⟨some 20, .mov (.t 5), none, []⟩,
  ⟨some 21, .mov (.t 6), none, []⟩,
  ⟨some 22, .ia 1 (.t 20) (.t 21), none, []⟩,
  ⟨some 23, .load 1 true (.t 22), none, []⟩,
  ⟨some 24, .mov (.t 1), none, []⟩,
  ⟨some 25, .bin .shl (.t 23) (.t 24), none, []⟩,
  ⟨some 26, .ia 1 (.t 20) (.t 21), none, []⟩,
  ⟨none, .store 1 (.t 26) (.t 25), none, []⟩] [17, 20, 21, 22, 23, 24, 25, 26]
def R_nat_shifted_7 : AC := .ops false [⟨some 27, .mov (.t 6), none, []⟩,
  ⟨some 28, .bin .gtr (.t 27) (.c (.int .i64 0)), none, []⟩] [27]
def R_nat_shifted_8 : AC := .ops true [⟨some 29, .mov (.t 5), none, []⟩,
  ⟨some 30, .mov (.t 6), none, []⟩,
  ⟨some 31, .ia 1 (.t 29) (.t 30), none, [0, 1]⟩,
  ⟨some 32, .load 1 true (.t 31), none, [2]⟩,
  ⟨some 33, .mov (.t 5), none, []⟩,
  ⟨some 34, .mov (.t 6), none, []⟩,
  ⟨some 35, .bin .sub (.t 34) (.c (.int .i64 1)), none, [5]⟩,
  ⟨some 36, .ia 1 (.t 33) (.t 35), none, [4, 6]⟩,
  ⟨some 37, .load 1 true (.t 36), none, [7]⟩,
  ⟨some 38, .conv .u64 (.t 37), none, [8]⟩,
  ⟨some 39, .mov (.t 1), none, []⟩,
  ⟨some 40, .bin .shl (.t 38) (.t 39), none, [9, 10]⟩,
  ⟨some 41, .bin .shr (.t 40) (.c (.int .u64 32)), none, [11]⟩,
  ⟨some 42, .conv .u32 (.t 41), none, [12]⟩,
  ⟨some 43, .bin .or (.t 32) (.t 42), none, [3, 13]⟩,
  ⟨some 44, .ia 1 (.t 29) (.t 30), none, [0, 1, 0, 1, 2, 3, 4, 5, 6, 7, 8, 9, 10, 11, 12, 13, 14]⟩,
  ⟨none, .store 1 (.t 44) (.t 43), none, [15, 14, 0, 1, 2, 3, 4, 5, 6, 7, 8, 9, 10, 11, 12, 13, 14]⟩] [28, 29, 30, 31, 32, 33, 34, 35, 36, 37, 38, 39, 40, 41, 42, 43, 44]
def R_nat_shifted_5 : AC := .ops false [⟨some 18, .mov (.t 6), none, []⟩,
  ⟨some 19, .bin .sub (.t 18) (.c (.int .i64 1)), none, []⟩,
  ⟨some 6, .mov (.t 19), none, []⟩] [18, 19, 28]
def L_nat_shifted_1 : AC := (.seq (.seq R_nat_shifted_4 (.cond (.t 17) .skip (.exit 0))) (.seq (.block 1 (.seq R_nat_shifted_6 (.seq R_nat_shifted_7 (.cond (.t 28) R_nat_shifted_8 .skip)))) R_nat_shifted_5))
def R_nat_shifted_9 : AC := .ops false [⟨some 45, .mov (.t 5), none, []⟩,
  ⟨some 4, .mov (.t 45), none, []⟩] [1, 5, 6, 17, 45]
def F_nat_shifted : AFunc := { ntmps := 46, nargs := 2, kills := [[4], [7, 8, 9, 10], [11, 12, 13], [0, 14, 15], [16], [18, 19, 28], [17, 20, 21, 22, 23, 24, 25, 26], [27], [28, 29, 30, 31, 32, 33, 34, 35, 36, 37, 38, 39, 40, 41, 42, 43, 44], [1, 5, 6, 17, 45]], results := [.t 4], body := (.seq R_nat_shifted_0 (.seq R_nat_shifted_1 (.seq R_nat_shifted_2 (.seq (.seq R_nat_shifted_3 (.block 0 (.loop L_nat_shifted_1))) (.seq R_nat_shifted_9 .ret))))) }
abbrev k_nat_shifted : Nat := 316
-- suffrage/nat.guess
def R_nat_guess_0 : AC := .ops false [⟨some 4, .mov (.c (.int .u64 0)), none, []⟩] [4]
def R_nat_guess_1 : AC := .ops false [⟨some 9, .mov (.t 1), none, []⟩,
  ⟨some 10, .len (.t 9), none, []⟩,
  ⟨some 5, .mov (.t 10), none, []⟩] [9, 10]
def R_nat_guess_2 : AC := .ops true [⟨some 11, .mov (.t 0), none, []⟩,
  ⟨some 12, .mov (.t 5), none, []⟩,
  ⟨some 13, .ia 1 (.t 11) (.t 12), none, [0, 1]⟩,
  ⟨some 14, .load 1 true (.t 13), none, [2]⟩,
  ⟨some 15, .conv .u64 (.t 14), none, [3]⟩,
  ⟨some 16, .bin .shl (.t 15) (.c (.int .u64 32)), none, [4]⟩,
  ⟨some 17, .mov (.t 0), none, []⟩,
  ⟨some 18, .mov (.t 5), none, []⟩,
  ⟨some 19, .bin .sub (.t 18) (.c (.int .i64 1)), none, [7]⟩,
  ⟨some 20, .ia 1 (.t 17) (.t 19), none, [6, 8]⟩,
  ⟨some 21, .load 1 true (.t 20), none, [9]⟩,
  ⟨some 22, .conv .u64 (.t 21), none, [10]⟩,
  ⟨some 23, .bin .or (.t 16) (.t 22), none, [5, 11]⟩,
  ⟨some 6, .mov (.t 23), none, [12, 0, 1, 2, 3, 4, 5, 6, 7, 8, 9, 10, 11, 12]⟩] [11, 12, 13, 14, 15, 16, 17, 18, 19, 20, 21, 22, 23]
def R_nat_guess_3 : AC := .ops true [⟨some 24, .mov (.t 6), none, []⟩,
  ⟨some 25, .mov (.t 1), none, []⟩,
  ⟨some 26, .mov (.t 5), none, []⟩,
  ⟨some 27, .bin .sub (.t 26) (.c (.int .i64 1)), none, [2]⟩,
  ⟨some 28, .ia 1 (.t 25) (.t 27), none, [1, 3]⟩,
  ⟨some 29, .load 1 true (.t 28), none, [4]⟩,
  ⟨some 30, .conv .u64 (.t 29), none, [5]⟩,
  ⟨some 31, .bin .quo (.t 24) (.t 30), none, [0, 6]⟩,
  ⟨some 32, .mov (.t 6), none, []⟩,
  ⟨some 33, .mov (.t 1), none, []⟩,
  ⟨some 34, .mov (.t 5), none, []⟩,
  ⟨some 35, .bin .sub (.t 34) (.c (.int .i64 1)), none, [10]⟩,
  ⟨some 36, .ia 1 (.t 33) (.t 35), none, [9, 11]⟩,
  ⟨some 37, .load 1 true (.t 36), none, [12]⟩,
  ⟨some 38, .conv .u64 (.t 37), none, [13]⟩,
  ⟨some 39, .bin .rem (.t 32) (.t 38), none, [8, 14]⟩,
  ⟨some 7, .mov (.t 31), none, [7, 0, 1, 2, 3, 4, 5, 6, 7]⟩,
  ⟨some 8, .mov (.t 39), none, [15, 16, 0, 1, 2, 3, 4, 5, 6, 7, 8, 9, 10, 11, 12, 13, 14, 15, 16]⟩] [6, 24, 25, 26, 27, 28, 29, 30, 31, 32, 33, 34, 35, 36, 37, 38, 39]
def R_nat_guess_4 : AC := .ops true [⟨some 40, .mov (.t 7), none, []⟩,
  ⟨some 41, .bin .shr (.t 40) (.c (.int .u64 32)), none, [0]⟩,
  ⟨some 42, .bin .neq (.t 41) (.c (.int .u64 0)), none, [1]⟩,
  ⟨some 43, .mov (.t 42), none, [2]⟩,
  ⟨some 44, .mov (.t 7), some (43, false), [3]⟩,
  ⟨some 45, .mov (.t 1), some (43, false), [3]⟩,
  ⟨some 46, .mov (.t 5), some (43, false), [3]⟩,
  ⟨some 47, .bin .sub (.t 46) (.c (.int .i64 2)), some (43, false), [6, 3]⟩,
  ⟨some 48, .ia 1 (.t 45) (.t 47), some (43, false), [5, 7, 3]⟩,
  ⟨some 49, .load 1 true (.t 48), some (43, false), [8, 3]⟩,
  ⟨some 50, .conv .u64 (.t 49), some (43, false), [9, 3]⟩,
  ⟨some 51, .bin .mul (.t 44) (.t 50), some (43, false), [4, 10, 3]⟩,
  ⟨some 52, .mov (.t 8), some (43, false), [3]⟩,
  ⟨some 53, .bin .shl (.t 52) (.c (.int .u64 32)), some (43, false), [12, 3]⟩,
  ⟨some 54, .mov (.t 0), some (43, false), [3]⟩,
  ⟨some 55, .mov (.t 5), some (43, false), [3]⟩,
  ⟨some 56, .bin .sub (.t 55) (.c (.int .i64 2)), some (43, false), [15, 3]⟩,
  ⟨some 57, .ia 1 (.t 54) (.t 56), some (43, false), [14, 16, 3]⟩,
  ⟨some 58, .load 1 true (.t 57), some (43, false), [17, 3]⟩,
  ⟨some 59, .conv .u64 (.t 58), some (43, false), [18, 3]⟩,
  ⟨some 60, .bin .or (.t 53) (.t 59), some (43, false), [13, 19, 3]⟩,
  ⟨some 61, .bin .gtr (.t 51) (.t 60), some (43, false), [11, 20, 3]⟩,
  ⟨some 62, .pick (.t 43) (.c (.bool true)) (.t 61), none, [3, 21]⟩] [40, 41, 42, 43, 44, 45, 46, 47, 48, 49, 50, 51, 52, 53, 54, 55, 56, 57, 58, 59, 60, 61, 75]
def R_nat_guess_5 : AC := .ops false [⟨some 63, .mov (.t 7), none, []⟩,
  ⟨some 64, .bin .sub (.t 63) (.c (.int .u64 1)), none, []⟩,
  ⟨some 7, .mov (.t 64), none, []⟩] [62, 63, 64]
def R_nat_guess_6 : AC := .ops false [⟨some 65, .mov (.t 8), none, []⟩,
  ⟨some 66, .mov (.t 1), none, []⟩,
  ⟨some 67, .mov (.t 5), none, []⟩,
  ⟨some 68, .bin .sub (.t 67) (.c (.int .i64 1)), none, []⟩,
  ⟨some 69, .ia 1 (.t 66) (.t 68), none, []⟩,
  ⟨some 70, .load 1 true (.t 69), none, []⟩,
  ⟨some 71, .conv .u64 (.t 70), none, []⟩,
  ⟨some 72, .bin .add (.t 65) (.t 71), none, []⟩,
  ⟨some 8, .mov (.t 72), none, []⟩] [65, 66, 67, 68, 69, 70, 71, 72]
def R_nat_guess_7 : AC := .ops false [⟨some 73, .mov (.t 8), none, []⟩,
  ⟨some 74, .bin .shr (.t 73) (.c (.int .u64 32)), none, []⟩,
  ⟨some 75, .bin .neq (.t 74) (.c (.int .u64 0)), none, []⟩] [73, 74]
def L_nat_guess_1 : AC := (.seq (.seq R_nat_guess_4 (.cond (.t 62) .skip (.exit 0))) (.block 1 (.seq R_nat_guess_5 (.seq R_nat_guess_6 (.seq R_nat_guess_7 (.cond (.t 75) (.exit 0) .skip))))))
def R_nat_guess_8 : AC := .ops false [⟨some 76, .mov (.t 7), none, []⟩,
  ⟨some 4, .mov (.t 76), none, []⟩] [0, 1, 5, 7, 8, 62, 75, 76]
def F_nat_guess : AFunc := { ntmps := 77, nargs := 2, kills := [[4], [9, 10], [11, 12, 13, 14, 15, 16, 17, 18, 19, 20, 21, 22, 23], [6, 24, 25, 26, 27, 28, 29, 30, 31, 32, 33, 34, 35, 36, 37, 38, 39], [40, 41, 42, 43, 44, 45, 46, 47, 48, 49, 50, 51, 52, 53, 54, 55, 56, 57, 58, 59, 60, 61, 75], [62, 63, 64], [65, 66, 67, 68, 69, 70, 71, 72], [73, 74], [0, 1, 5, 7, 8, 62, 75, 76]], results := [.t 4], body := (.seq R_nat_guess_0 (.seq R_nat_guess_1 (.seq R_nat_guess_2 (.seq R_nat_guess_3 (.seq (.block 0 (.loop L_nat_guess_1)) (.seq R_nat_guess_8 .ret)))))) }
abbrev k_nat_guess : Nat := 317
-- suffrage/nat.takes
def R_nat_takes_0 : AC := .ops false [⟨some 6, .mov (.c (.bool false)), none, []⟩] [6]
def R_nat_takes_1 : AC := .ops false [⟨some 7, .mov (.c (.int .u64 0)), none, []⟩,
  ⟨some 8, .mov (.c (.int .u32 0)), none, []⟩] []
def R_nat_takes_2 : AC := .ops false [⟨some 11, .mov (.t 1), none, []⟩,
  ⟨some 12, .len (.t 11), none, []⟩,
  ⟨some 13, .mov (.c (.int .i64 0)), none, []⟩] []
def R_nat_takes_3 : AC := .ops false [⟨some 14, .bin .lss (.t 13) (.t 12), none, []⟩] []
def R_nat_takes_4 : AC := .ops false [⟨some 15, .mov (.t 13), none, []⟩,
  ⟨some 16, .ia 1 (.t 11) (.t 13), none, []⟩,
  ⟨some 17, .load 1 true (.t 16), none, []⟩,
  ⟨some 9, .mov (.t 15), none, []⟩,
  ⟨some 10, .mov (.t 17), none, []⟩] [14, 15, 16, 17]
def R_nat_takes_5 : AC := .ops false [⟨some 18, .mov (.t 7), none, []⟩,
  ⟨some 19, .mov (.t 2), none, []⟩,
  ⟨some 20, .mov (.t 10), none, []⟩,
  ⟨some 21, .conv .u64 (.t 20), none, []⟩,
  ⟨some 22, .bin .mul (.t 19) (.t 21), none, []⟩,
  ⟨some 23, .bin .add (.t 18) (.t 22), none, []⟩,
  ⟨some 7, .mov (.t 23), none, []⟩] [10, 18, 19, 20, 21, 22, 23]
def R_nat_takes_6 : AC := .ops false [⟨some 25, .mov (.t 0), none, []⟩,
  ⟨some 26, .mov (.t 9), none, []⟩,
  ⟨some 27, .mov (.t 0), none, []⟩,
  ⟨some 28, .mov (.t 9), none, []⟩,
  ⟨some 29, .ia 1 (.t 27) (.t 28), none, []⟩,
  ⟨some 30, .load 1 true (.t 29), none, []⟩,
  ⟨some 31, .mov (.t 7), none, []⟩,
  ⟨some 32, .conv .u32 (.t 31), none, []⟩,
  ⟨some 33, .mov (.t 8), none, []⟩,
  ⟨some 34, .call (.fn 333) [.t 30, .t 32, .t 33], none, []⟩,
  ⟨some 24, .mov (.t 34), none, []⟩,
  ⟨some 35, .ext (.t 24) 0, none, []⟩,
  ⟨some 36, .ext (.t 24) 1, none, []⟩,
  ⟨some 37, .ia 1 (.t 25) (.t 26), none, []⟩,
  ⟨none, .store 1 (.t 37) (.t 35), none, []⟩,
  ⟨some 8, .mov (.t 36), none, []⟩] [9, 24, 25, 26, 27, 28, 29, 30, 31, 32, 33, 34, 35, 36, 37]
def R_nat_takes_7 : AC := .ops false [⟨some 38, .mov (.t 7), none, []⟩,
  ⟨some 39, .bin .shr (.t 38) (.c (.int .u64 32)), none, []⟩,
  ⟨some 7, .mov (.t 39), none, []⟩] [38, 39]
def R_nat_takes_8 : AC := .ops false [⟨some 40, .bin .add (.t 13) (.c (.int .i64 1)), none, []⟩,
  ⟨some 13, .mov (.t 40), none, []⟩] [40]
def L_nat_takes_1 : AC := (.seq R_nat_takes_3 (.seq (.cond (.t 14) .skip (.exit 0)) (.seq (.block 1 (.seq R_nat_takes_4 (.seq R_nat_takes_5 (.seq R_nat_takes_6 R_nat_takes_7)))) R_nat_takes_8)))
def R_nat_takes_9 : AC := .ops false [⟨some 42, .mov (.t 0), none, []⟩,
  ⟨some 43, .mov (.t 1), none, []⟩,
  ⟨some 44, .len (.t 43), none, []⟩,
  ⟨some 45, .mov (.t 0), none, []⟩,
  ⟨some 46, .mov (.t 1), none, []⟩,
  ⟨some 47, .len (.t 46), none, []⟩,
  ⟨some 48, .ia 1 (.t 45) (.t 47), none, []⟩,
  ⟨some 49, .load 1 true (.t 48), none, []⟩,
  ⟨some 50, .mov (.t 7), none, []⟩,
  ⟨some 51, .conv .u32 (.t 50), none, []⟩,
  ⟨some 52, .mov (.t 8), none, []⟩,
  ⟨some 53, .call (.fn 333) [.t 49, .t 51, .t 52], none, []⟩,
  ⟨some 41, .mov (.t 53), none, []⟩,
  ⟨some 54, .ext (.t 41) 0, none, []⟩,
  ⟨some 55, .ext (.t 41) 1, none, []⟩,
  ⟨some 56, .ia 1 (.t 42) (.t 44), none, []⟩,
  ⟨none, .store 1 (.t 56) (.t 54), none, []⟩,
  ⟨some 8, .mov (.t 55), none, []⟩] [0, 1, 2, 7, 11, 12, 13, 14, 41, 42, 43, 44, 45, 46, 47, 48, 49, 50, 51, 52, 53, 54, 55, 56]
def R_nat_takes_10 : AC := .ops false [⟨some 57, .mov (.t 8), none, []⟩,
  ⟨some 58, .bin .neq (.t 57) (.c (.int .u32 0)), none, []⟩,
  ⟨some 6, .mov (.t 58), none, []⟩] [8, 57, 58]
def F_nat_takes : AFunc := { ntmps := 59, nargs := 3, kills := [[6], [], [], [], [14, 15, 16, 17], [10, 18, 19, 20, 21, 22, 23], [9, 24, 25, 26, 27, 28, 29, 30, 31, 32, 33, 34, 35, 36, 37], [38, 39], [40], [0, 1, 2, 7, 11, 12, 13, 14, 41, 42, 43, 44, 45, 46, 47, 48, 49, 50, 51, 52, 53, 54, 55, 56], [8, 57, 58]], results := [.t 6], body := (.seq R_nat_takes_0 (.seq R_nat_takes_1 (.seq (.seq R_nat_takes_2 (.block 0 (.loop L_nat_takes_1))) (.seq R_nat_takes_9 (.seq R_nat_takes_10 .ret))))) }
abbrev k_nat_takes : Nat := 318
-- suffrage/nat.back
def R_nat_back_0 : AC := .ops false [⟨some 4, .mov (.c (.int .u32 0)), none, []⟩] []
def R_nat_back_1 : AC := .ops false [⟨some 7, .mov (.t 1), none, []⟩,
  ⟨some 8, .len (.t 7), none, []⟩,
  ⟨some 9, .mov (.c (.int .i64 0)), none, []⟩] []
def R_nat_back_2 : AC := .ops false [⟨some 10, .bin .lss (.t 9) (.t 8), none, []⟩] []
def R_nat_back_3 : AC := .ops false [⟨some 11, .mov (.t 9), none, []⟩,
  ⟨some 12, .ia 1 (.t 7) (.t 9), none, []⟩,
  ⟨some 13, .load 1 true (.t 12), none, []⟩,
  ⟨some 5, .mov (.t 11), none, []⟩,
  ⟨some 6, .mov (.t 13), none, []⟩] [10, 11, 12, 13]
def R_nat_back_4 : AC := .ops false [⟨some 15, .mov (.t 0), none, []⟩,
  ⟨some 16, .mov (.t 5), none, []⟩,
  ⟨some 17, .mov (.t 0), none, []⟩,
  ⟨some 18, .mov (.t 5), none, []⟩,
  ⟨some 19, .ia 1 (.t 17) (.t 18), none, []⟩,
  ⟨some 20, .load 1 true (.t 19), none, []⟩,
  ⟨some 21, .mov (.t 6), none, []⟩,
  ⟨some 22, .mov (.t 4), none, []⟩,
  ⟨some 23, .call (.fn 330) [.t 20, .t 21, .t 22], none, []⟩,
  ⟨some 14, .mov (.t 23), none, []⟩,
  ⟨some 24, .ext (.t 14) 0, none, []⟩,
  ⟨some 25, .ext (.t 14) 1, none, []⟩,
  ⟨some 26, .ia 1 (.t 15) (.t 16), none, []⟩,
  ⟨none, .store 1 (.t 26) (.t 24), none, []⟩,
  ⟨some 4, .mov (.t 25), none, []⟩] [5, 6, 14, 15, 16, 17, 18, 19, 20, 21, 22, 23, 24, 25, 26]
def R_nat_back_5 : AC := .ops false [⟨some 27, .bin .add (.t 9) (.c (.int .i64 1)), none, []⟩,
  ⟨some 9, .mov (.t 27), none, []⟩] [27]
def L_nat_back_1 : AC := (.seq R_nat_back_2 (.seq (.cond (.t 10) .skip (.exit 0)) (.seq (.block 1 (.seq R_nat_back_3 R_nat_back_4)) R_nat_back_5)))
def R_nat_back_6 : AC := .ops false [⟨some 28, .mov (.t 0), none, []⟩,
  ⟨some 29, .mov (.t 1), none, []⟩,
  ⟨some 30, .len (.t 29), none, []⟩,
  ⟨some 31, .ia 1 (.t 28) (.t 30), none, []⟩,
  ⟨some 32, .load 1 true (.t 31), none, []⟩,
  ⟨some 33, .mov (.t 4), none, []⟩,
  ⟨some 34, .bin .add (.t 32) (.t 33), none, []⟩,
  ⟨some 35, .ia 1 (.t 28) (.t 30), none, []⟩,
  ⟨none, .store 1 (.t 35) (.t 34), none, []⟩] [0, 1, 4, 7, 8, 9, 10, 28, 29, 30, 31, 32, 33, 34, 35]
def F_nat_back : AFunc := { ntmps := 36, nargs := 2, kills := [[], [], [], [10, 11, 12, 13], [5, 6, 14, 15, 16, 17, 18, 19, 20, 21, 22, 23, 24, 25, 26], [27], [0, 1, 4, 7, 8, 9, 10, 28, 29, 30, 31, 32, 33, 34, 35]], results := [], body := (.seq R_nat_back_0 (.seq (.seq R_nat_back_1 (.block 0 (.loop L_nat_back_1))) R_nat_back_6)) }
abbrev k_nat_back : Nat := 319
-- slices.Equal[[]uint32,uint32]
def R_slices_Equal_0 : AC := .ops false [⟨some 4, .mov (.c (.bool false)), none, []⟩] [4]
def R_slices_Equal_1 : AC := .ops false [⟨some 6, .mov (.t 0), none, []⟩,
  ⟨some 7, .len (.t 6), none, []⟩,
  ⟨some 8, .mov (.t 1), none, []⟩,
  ⟨some 9, .len (.t 8), none, []⟩,
  ⟨some 10, .bin .neq (.t 7) (.t 9), none, []⟩] [6, 7, 8, 9]
def R_slices_Equal_2 : AC := .ops false [⟨some 4, .mov (.c (.bool false)), none, []⟩] [0, 1, 10]
def R_slices_Equal_3 : AC := .ops false [⟨some 11, .mov (.t 0), none, []⟩,
  ⟨some 12, .len (.t 11), none, []⟩,
  ⟨some 13, .mov (.c (.int .i64 0)), none, []⟩] [10, 11]
def R_slices_Equal_4 : AC := .ops false [⟨some 14, .bin .lss (.t 13) (.t 12), none, []⟩] []
def R_slices_Equal_5 : AC := .ops false [⟨some 15, .mov (.t 13), none, []⟩,
  ⟨some 5, .mov (.t 15), none, []⟩] [14, 15]
def R_slices_Equal_6 : AC := .ops true [⟨some 16, .mov (.t 0), none, []⟩,
  ⟨some 17, .mov (.t 5), none, []⟩,
  ⟨some 18, .ia 1 (.t 16) (.t 17), none, [0, 1]⟩,
  ⟨some 19, .load 1 true (.t 18), none, [2]⟩,
  ⟨some 20, .mov (.t 1), none, []⟩,
  ⟨some 21, .mov (.t 5), none, []⟩,
  ⟨some 22, .ia 1 (.t 20) (.t 21), none, [4, 5]⟩,
  ⟨some 23, .load 1 true (.t 22), none, [6]⟩,
  ⟨some 24, .bin .neq (.t 19) (.t 23), none, [3, 7]⟩] [5, 16, 17, 18, 19, 20, 21, 22, 23]
def R_slices_Equal_7 : AC := .ops false [⟨some 4, .mov (.c (.bool false)), none, []⟩] [0, 1, 12, 13, 24]
def R_slices_Equal_8 : AC := .ops false [⟨some 25, .bin .add (.t 13) (.c (.int .i64 1)), none, []⟩,
  ⟨some 13, .mov (.t 25), none, []⟩] [24, 25]
def L_slices_Equal_1 : AC := (.seq R_slices_Equal_4 (.seq (.cond (.t 14) .skip (.exit 0)) (.seq (.block 1 (.seq R_slices_Equal_5 (.seq R_slices_Equal_6 (.cond (.t 24) (.seq R_slices_Equal_7 .ret) .skip)))) R_slices_Equal_8)))
def R_slices_Equal_9 : AC := .ops false [⟨some 4, .mov (.c (.bool true)), none, []⟩] [0, 1, 12, 13, 14]
def F_slices_Equal : AFunc := { ntmps := 26, nargs := 2, kills := [[4], [6, 7, 8, 9], [0, 1, 10], [10, 11], [], [14, 15], [5, 16, 17, 18, 19, 20, 21, 22, 23], [0, 1, 12, 13, 24], [24, 25], [0, 1, 12, 13, 14]], results := [.t 4], body := (.seq R_slices_Equal_0 (.seq (.seq R_slices_Equal_1 (.cond (.t 10) (.seq R_slices_Equal_2 .ret) .skip)) (.seq (.seq R_slices_Equal_3 (.block 0 (.loop L_slices_Equal_1))) (.seq R_slices_Equal_9 .ret)))) }
abbrev k_slices_Equal : Nat := 320
-- suffrage/nat.times
def R_nat_times_0 : AC := .ops false [⟨some 6, .mov (.c (.int .u64 0)), none, []⟩] []
def R_nat_times_1 : AC := .ops false [⟨some 9, .mov (.t 1), none, []⟩,
  ⟨some 10, .len (.t 9), none, []⟩,
  ⟨some 11, .mov (.c (.int .i64 0)), none, []⟩] []
def R_nat_times_2 : AC := .ops false [⟨some 12, .bin .lss (.t 11) (.t 10), none, []⟩] []
def R_nat_times_3 : AC := .ops false [⟨some 13, .mov (.t 11), none, []⟩,
  ⟨some 14, .ia 1 (.t 9) (.t 11), none, []⟩,
  ⟨some 15, .load 1 true (.t 14), none, []⟩,
  ⟨some 7, .mov (.t 13), none, []⟩,
  ⟨some 8, .mov (.t 15), none, []⟩] [12, 13, 14, 15]
def R_nat_times_4 : AC := .ops false [⟨some 16, .mov (.t 6), none, []⟩,
  ⟨some 17, .mov (.t 8), none, []⟩,
  ⟨some 18, .conv .u64 (.t 17), none, []⟩,
  ⟨some 19, .mov (.t 2), none, []⟩,
  ⟨some 20, .conv .u64 (.t 19), none, []⟩,
  ⟨some 21, .bin .mul (.t 18) (.t 20), none, []⟩,
  ⟨some 22, .mov (.t 0), none, []⟩,
  ⟨some 23, .mov (.t 7), none, []⟩,
  ⟨some 24, .ia 1 (.t 22) (.t 23), none, []⟩,
  ⟨some 25, .load 1 true (.t 24), none, []⟩,
  ⟨some 26, .conv .u64 (.t 25), none, []⟩,
  ⟨some 27, .bin .add (.t 21) (.t 26), none, []⟩,
  ⟨some 28, .bin .add (.t 16) (.t 27), none, []⟩,
  ⟨some 6, .mov (.t 28), none, []⟩] [8, 16, 17, 18, 19, 20, 21, 22, 23, 24, 25, 26, 27, 28]
def R_nat_times_5 : AC := .ops false [⟨some 29, .mov (.t 0), none, []⟩,
  ⟨some 30, .mov (.t 7), none, []⟩,
  ⟨some 31, .mov (.t 6), none, []⟩,
  ⟨some 32, .conv .u32 (.t 31), none, []⟩,
  ⟨some 33, .ia 1 (.t 29) (.t 30), none, []⟩,
  ⟨none, .store 1 (.t 33) (.t 32), none, []⟩] [7, 29, 30, 31, 32, 33]
def R_nat_times_6 : AC := .ops false [⟨some 34, .mov (.t 6), none, []⟩,
  ⟨some 35, .bin .shr (.t 34) (.c (.int .u64 32)), none, []⟩,
  ⟨some 6, .mov (.t 35), none, []⟩] [34, 35]
def R_nat_times_7 : AC := .ops false [⟨some 36, .bin .add (.t 11) (.c (.int .i64 1)), none, []⟩,
  ⟨some 11, .mov (.t 36), none, []⟩] [36]
def L_nat_times_1 : AC := (.seq R_nat_times_2 (.seq (.cond (.t 12) .skip (.exit 0)) (.seq (.block 1 (.seq R_nat_times_3 (.seq R_nat_times_4 (.seq R_nat_times_5 R_nat_times_6)))) R_nat_times_7)))
def R_nat_times_8 : AC := .ops false [⟨some 37, .mov (.t 0), none, []⟩,
  ⟨some 38, .mov (.t 1), none, []⟩,
  ⟨some 39, .len (.t 38), none, []⟩,
  ⟨some 40, .ia 1 (.t 37) (.t 39), none, []⟩,
  ⟨some 41, .load 1 true (.t 40), none, []⟩,
  ⟨some 42, .mov (.t 6), none, []⟩,
  ⟨some 43, .conv .u32 (.t 42), none, []⟩,
  ⟨some 44, .bin .add (.t 41) (.t 43), none, []⟩,
  ⟨some 45, .ia 1 (.t 37) (.t 39), none, []⟩,
  ⟨none, .store 1 (.t 45) (.t 44), none, []⟩] [0, 1, 2, 6, 9, 10, 11, 12, 37, 38, 39, 40, 41, 42, 43, 44, 45]
def F_nat_times : AFunc := { ntmps := 46, nargs := 3, kills := [[], [], [], [12, 13, 14, 15], [8, 16, 17, 18, 19, 20, 21, 22, 23, 24, 25, 26, 27, 28], [7, 29, 30, 31, 32, 33], [34, 35], [36], [0, 1, 2, 6, 9, 10, 11, 12, 37, 38, 39, 40, 41, 42, 43, 44, 45]], results := [], body := (.seq R_nat_times_0 (.seq (.seq R_nat_times_1 (.block 0 (.loop L_nat_times_1))) R_nat_times_8)) }
abbrev k_nat_times : Nat := 321
-- suffrage/nat.fits
def R_nat_fits_0 : AC := .ops false [⟨some 2, .mov (.c (.lst 0 [] (some 0))), none, []⟩,
  ⟨some 3, .mov (.c (.int .i64 0)), none, []⟩] [2, 3]
def R_nat_fits_1 : AC := .ops false [⟨some 4, .mov (.t 0), none, []⟩,
  ⟨some 5, .call (.fn 164) [.t 4], none, []⟩,
  ⟨some 0, .mov (.t 5), none, []⟩] [4, 5]
def R_nat_fits_2 : AC := .ops false [⟨some 6, .mov (.t 0), none, []⟩,
  ⟨some 7, .len (.t 6), none, []⟩,
  ⟨some 8, .bin .gtr (.t 7) (.c (.int .i64 96)), none, []⟩] [6, 7]
def R_nat_fits_3 : AC := .ops false [⟨some 2, .mov (.c (.lst 0 [] (some 0))), none, []⟩,
  ⟨some 3, .mov (.c (.int .i64 30)), none, []⟩] [0, 8]
def R_nat_fits_4 : AC := .ops false [⟨some 9, .mov (.t 0), none, []⟩,
  ⟨some 2, .mov (.t 9), none, []⟩,
  ⟨some 3, .mov (.c (.int .i64 0)), none, []⟩] [0, 8, 9]
def F_nat_fits : AFunc := { ntmps := 10, nargs := 1, kills := [[2, 3], [4, 5], [6, 7], [0, 8], [0, 8, 9]], results := [.t 2, .t 3], body := (.seq R_nat_fits_0 (.seq (.seq R_nat_fits_1 (.seq R_nat_fits_2 (.cond (.t 8) (.seq R_nat_fits_3 .ret) .skip))) (.seq R_nat_fits_4 .ret))) }
abbrev k_nat_fits : Nat := 322
-- slices.insertionSortCmpFunc[suffrage/api.Link]
def R_slices_insertionSortCmpFunc_0 : AC := .ops false [⟨some 10, .mov (.t 1), none, []⟩,
  ⟨some 11, .bin .add (.t 10) (.c (.int .i64 1)), none, []⟩,
  ⟨some 8, .mov (.t 11), none, []⟩] [10, 11]
def R_slices_insertionSortCmpFunc_1 : AC := .ops false [⟨some 12, .mov (.t 8), none, []⟩,
  ⟨some 13, .mov (.t 2), none, []⟩,
  ⟨some 14, .bin .lss (.t 12) (.t 13), none, []⟩] [12, 13]
def R_slices_insertionSortCmpFunc_3 : AC := .ops false [⟨some 17, .mov (.t 8), none, []⟩,
  ⟨some 9, .mov (.t 17), none, []⟩] [14, 17]
def R_slices_insertionSortCmpFunc_4 : AC := .ops true [⟨some 18, .mov (.t 9), none, []⟩,
  ⟨some 19, .mov (.t 1), none, []⟩,
  ⟨some 20, .bin .gtr (.t 18) (.t 19), none, [0, 1]⟩,
  ⟨some 21, .mov (.t 20), none, [2]⟩,
  ⟨some 22, .mov (.t 3), some (21, true), [3]⟩,
  ⟨some 23, .mov (.t 0), some (21, true), [3]⟩,
  ⟨some 24, .mov (.t 9), some (21, true), [3]⟩,
  ⟨some 25, .ia 4 (.t 23) (.t 24), some (21, true), [5, 6, 3]⟩,
  ⟨some 26, .load 4 false (.t 25), some (21, true), [7, 3]⟩,
  ⟨some 27, .mov (.t 0), some (21, true), [3]⟩,
  ⟨some 28, .mov (.t 9), some (21, true), [3]⟩,
  ⟨some 29, .bin .sub (.t 28) (.c (.int .i64 1)), some (21, true), [10, 3]⟩,
  ⟨some 30, .ia 4 (.t 27) (.t 29), some (21, true), [9, 11, 3]⟩,
  ⟨some 31, .load 4 false (.t 30), some (21, true), [12, 3]⟩,
  ⟨some 32, .call (.dyn (.t 22)) [.t 26, .t 31], some (21, true), [4, 8, 13, 3, 3]⟩,
  ⟨some 33, .bin .lss (.t 32) (.c (.int .i64 0)), some (21, true), [14, 3]⟩,
  ⟨some 34, .pick (.t 21) (.t 33) (.c (.bool false)), none, [3, 15]⟩] [18, 19, 20, 21, 22, 23, 24, 25, 26, 27, 28, 29, 30, 31, 32, 33]
def R_slices_insertionSortCmpFunc_6 : AC := .ops true [⟨some 37, .mov (.t 0), none, []⟩,
  ⟨some 38, .mov (.t 9), none, []⟩,
  ⟨some 39, .mov (.t 0), none, []⟩,
  ⟨some 40, .mov (.t 9), none, []⟩,
  ⟨some 41, .bin .sub (.t 40) (.c (.int .i64 1)), none, [3]⟩,
  ⟨some 42, .mov (.t 0), none, []⟩,
  ⟨some 43, .mov (.t 9), none, []⟩,
  ⟨some 44, .bin .sub (.t 43) (.c (.int .i64 1)), none, [6]⟩,
  ⟨some 45, .ia 4 (.t 42) (.t 44), none, [5, 7]⟩,
  ⟨some 46, .load 4 false (.t 45), none, [8]⟩,
  ⟨some 47, .mov (.t 0), none, []⟩,
  ⟨some 48, .mov (.t 9), none, []⟩,
  ⟨some 49, .ia 4 (.t 47) (.t 48), none, [10, 11]⟩,
  ⟨some 50, .load 4 false (.t 49), none, [12]⟩,
  ⟨some 51, .ia 4 (.t 37) (.t 38), none, [0, 1, 0, 1, 5, 6, 7, 8, 9, 13]⟩,
  ⟨none, .store 4 (.t 51) (.t 46), none, [14, 9, 0, 1, 5, 6, 7, 8, 9, 13]⟩,
  ⟨some 52, .ia 4 (.t 39) (.t 41), none, [2, 4, 0, 1, 2, 3, 4, 5, 6, 7, 8, 9, 10, 11, 12, 13, 14, 15]⟩,
  ⟨none, .store 4 (.t 52) (.t 50), none, [16, 13, 15, 0, 1, 2, 3, 4, 5, 6, 7, 8, 9, 10, 11, 12, 13, 14, 15]⟩] [34, 37, 38, 39, 40, 41, 42, 43, 44, 45, 46, 47, 48, 49, 50, 51, 52]
def R_slices_insertionSortCmpFunc_5 : AC := .ops false [⟨some 35, .mov (.t 9), none, []⟩,
  ⟨some 36, .bin .sub (.t 35) (.c (.int .i64 1)), none, []⟩,
  ⟨some 9, .mov (.t 36), none, []⟩] [35, 36]
def L_slices_insertionSortCmpFunc_1 : AC := (.seq (.seq R_slices_insertionSortCmpFunc_4 (.cond (.t 34) .skip (.exit 2))) (.seq (.block 3 R_slices_insertionSortCmpFunc_6) R_slices_insertionSortCmpFunc_5))
def R_slices_insertionSortCmpFunc_2 : AC := .ops false [⟨some 15, .mov (.t 8), none, []⟩,
  ⟨some 16, .bin .add (.t 15) (.c (.int .i64 1)), none, []⟩,
  ⟨some 8, .mov (.t 16), none, []⟩] [9, 15, 16, 34]
def L_slices_insertionSortCmpFunc_2 : AC := (.seq (.seq R_slices_insertionSortCmpFunc_1 (.cond (.t 14) .skip (.exit 0))) (.seq (.block 1 (.seq R_slices_insertionSortCmpFunc_3 (.block 2 (.loop L_slices_insertionSortCmpFunc_1)))) R_slices_insertionSortCmpFunc_2))
def F_slices_insertionSortCmpFunc : AFunc := { ntmps := 53, nargs := 4, kills := [[10, 11], [12, 13], [9, 15, 16, 34], [14, 17], [18, 19, 20, 21, 22, 23, 24, 25, 26, 27, 28, 29, 30, 31, 32, 33], [35, 36], [34, 37, 38, 39, 40, 41, 42, 43, 44, 45, 46, 47, 48, 49, 50, 51, 52]], results := [], body := (.seq R_slices_insertionSortCmpFunc_0 (.block 0 (.loop L_slices_insertionSortCmpFunc_2))) }
abbrev k_slices_insertionSortCmpFunc : Nat := 327
-- slices.symMergeCmpFunc[suffrage/api.Link]
def R_slices_symMergeCmpFunc_0 : AC := .ops false [⟨some 25, .mov (.t 2), none, []⟩,
  ⟨some 26, .mov (.t 1), none, []⟩,
  ⟨some 27, .bin .sub (.t 25) (.t 26), none, []⟩,
  ⟨some 28, .bin .eql (.t 27) (.c (.int .i64 1)), none, []⟩] [25, 26, 27]
def R_slices_symMergeCmpFunc_1 : AC := .ops false [⟨some 29, .mov (.t 2), none, []⟩,
  ⟨some 10, .mov (.t 29), none, []⟩] [2, 28, 29]
def R_slices_symMergeCmpFunc_2 : AC := .ops false [⟨some 30, .mov (.t 3), none, []⟩,
  ⟨some 11, .mov (.t 30), none, []⟩] [3, 30]
def R_slices_symMergeCmpFunc_3 : AC := .ops false [⟨some 31, .mov (.t 10), none, []⟩,
  ⟨some 32, .mov (.t 11), none, []⟩,
  ⟨some 33, .bin .lss (.t 31) (.t 32), none, []⟩] [31, 32]
def R_slices_symMergeCmpFunc_4 : AC := .ops false [⟨some 34, .mov (.t 10), none, []⟩,
  ⟨some 35, .mov (.t 11), none, []⟩,
  ⟨some 36, .bin .add (.t 34) (.t 35), none, []⟩,
  ⟨some 37, .conv .u64 (.t 36), none, []⟩,
  ⟨some 38, .bin .shr (.t 37) (.c (.int .u64 1)), none, []⟩,
  ⟨some 39, .conv .i64 (.t 38), none, []⟩,
  ⟨some 12, .mov (.t 39), none, []⟩] [33, 34, 35, 36, 37, 38, 39]
def R_slices_symMergeCmpFunc_5 : AC := .ops true [⟨some 40, .mov (.t 4), none, []⟩,
  ⟨some 41, .mov (.t 0), none, []⟩,
  ⟨some 42, .mov (.t 12), none, []⟩,
  ⟨some 43, .ia 4 (.t 41) (.t 42), none, [1, 2]⟩,
  ⟨some 44, .load 4 false (.t 43), none, [3]⟩,
  ⟨some 45, .mov (.t 0), none, []⟩,
  ⟨some 46, .mov (.t 1), none, []⟩,
  ⟨some 47, .ia 4 (.t 45) (.t 46), none, [5, 6]⟩,
  ⟨some 48, .load 4 false (.t 47), none, [7]⟩,
  ⟨some 49, .call (.dyn (.t 40)) [.t 44, .t 48], none, [0, 4, 8]⟩,
  ⟨some 50, .bin .lss (.t 49) (.c (.int .i64 0)), none, [9]⟩] [40, 41, 42, 43, 44, 45, 46, 47, 48, 49]
def R_slices_symMergeCmpFunc_6 : AC := .ops false [⟨some 51, .mov (.t 12), none, []⟩,
  ⟨some 52, .bin .add (.t 51) (.c (.int .i64 1)), none, []⟩,
  ⟨some 10, .mov (.t 52), none, []⟩] [12, 50, 51, 52]
def R_slices_symMergeCmpFunc_7 : AC := .ops false [⟨some 53, .mov (.t 12), none, []⟩,
  ⟨some 11, .mov (.t 53), none, []⟩] [12, 50, 53]
def L_slices_symMergeCmpFunc_1 : AC := (.seq (.seq R_slices_symMergeCmpFunc_3 (.cond (.t 33) .skip (.exit 0))) (.block 1 (.seq R_slices_symMergeCmpFunc_4 (.seq R_slices_symMergeCmpFunc_5 (.cond (.t 50) R_slices_symMergeCmpFunc_6 R_slices_symMergeCmpFunc_7)))))
def R_slices_symMergeCmpFunc_8 : AC := .ops false [⟨some 54, .mov (.t 1), none, []⟩,
  ⟨some 13, .mov (.t 54), none, []⟩] [1, 4, 11, 33, 54]
def R_slices_symMergeCmpFunc_9 : AC := .ops false [⟨some 55, .mov (.t 13), none, []⟩,
  ⟨some 56, .mov (.t 10), none, []⟩,
  ⟨some 57, .bin .sub (.t 56) (.c (.int .i64 1)), none, []⟩,
  ⟨some 58, .bin .lss (.t 55) (.t 57), none, []⟩] [55, 56, 57]
def R_slices_symMergeCmpFunc_11 : AC := .ops true [⟨some 61, .mov (.t 0), none, []⟩,
  ⟨some 62, .mov (.t 13), none, []⟩,
  ⟨some 63, .mov (.t 0), none, []⟩,
  ⟨some 64, .mov (.t 13), none, []⟩,
  ⟨some 65, .bin .add (.t 64) (.c (.int .i64 1)), none, [3]⟩,
  ⟨some 66, .mov (.t 0), none, []⟩,
  ⟨some 67, .mov (.t 13), none, []⟩,
  ⟨some 68, .bin .add (.t 67) (.c (.int .i64 1)), none, [6]⟩,
  ⟨some 69, .ia 4 (.t 66) (.t 68), none, [5, 7]⟩,
  ⟨some 70, .load 4 false (.t 69), none, [8]⟩,
  ⟨some 71, .mov (.t 0), none, []⟩,
  ⟨some 72, .mov (.t 13), none, []⟩,
  ⟨some 73, .ia 4 (.t 71) (.t 72), none, [10, 11]⟩,
  ⟨some 74, .load 4 false (.t 73), none, [12]⟩,
  ⟨some 75, .ia 4 (.t 61) (.t 62), none, [0, 1, 0, 1, 5, 6, 7, 8, 9, 13]⟩,
  ⟨none, .store 4 (.t 75) (.t 70), none, [14, 9, 0, 1, 5, 6, 7, 8, 9, 13]⟩,
  ⟨some 76, .ia 4 (.t 63) (.t 65), none, [2, 4, 0, 1, 2, 3, 4, 5, 6, 7, 8, 9, 10, 11, 12, 13, 14, 15]⟩,
  ⟨none, .store 4 (.t 76) (.t 74), none, [16, 13, 15, 0, 1, 2, 3, 4, 5, 6, 7, 8, 9, 10, 11, 12, 13, 14, 15]⟩] [58, 61, 62, 63, 64, 65, 66, 67, 68, 69, 70, 71, 72, 73, 74, 75, 76]
def R_slices_symMergeCmpFunc_10 : AC := .ops false [⟨some 59, .mov (.t 13), none, []⟩,
  ⟨some 60, .bin .add (.t 59) (.c (.int .i64 1)), none, []⟩,
  ⟨some 13, .mov (.t 60), none, []⟩] [59, 60]
def L_slices_symMergeCmpFunc_2 : AC := (.seq (.seq R_slices_symMergeCmpFunc_9 (.cond (.t 58) .skip (.exit 2))) (.seq (.block 3 R_slices_symMergeCmpFunc_11) R_slices_symMergeCmpFunc_10))
def R_slices_symMergeCmpFunc_12 : AC := .ops false [⟨some 77, .mov (.t 3), none, []⟩,
  ⟨some 78, .mov (.t 2), none, []⟩,
  ⟨some 79, .bin .sub (.t 77) (.t 78), none, []⟩,
  ⟨some 80, .bin .eql (.t 79) (.c (.int .i64 1)), none, []⟩] [28, 77, 78, 79]
def R_slices_symMergeCmpFunc_13 : AC := .ops false [⟨some 81, .mov (.t 1), none, []⟩,
  ⟨some 14, .mov (.t 81), none, []⟩] [1, 3, 80, 81]
def R_slices_symMergeCmpFunc_14 : AC := .ops false [⟨some 82, .mov (.t 2), none, []⟩,
  ⟨some 15, .mov (.t 82), none, []⟩] [82]
def R_slices_symMergeCmpFunc_15 : AC := .ops false [⟨some 83, .mov (.t 14), none, []⟩,
  ⟨some 84, .mov (.t 15), none, []⟩,
  ⟨some 85, .bin .lss (.t 83) (.t 84), none, []⟩] [83, 84]
def R_slices_symMergeCmpFunc_16 : AC := .ops false [⟨some 86, .mov (.t 14), none, []⟩,
  ⟨some 87, .mov (.t 15), none, []⟩,
  ⟨some 88, .bin .add (.t 86) (.t 87), none, []⟩,
  ⟨some 89, .conv .u64 (.t 88), none, []⟩,
  ⟨some 90, .bin .shr (.t 89) (.c (.int .u64 1)), none, []⟩,
  ⟨some 91, .conv .i64 (.t 90), none, []⟩,
  ⟨some 16, .mov (.t 91), none, []⟩] [85, 86, 87, 88, 89, 90, 91]
def R_slices_symMergeCmpFunc_17 : AC := .ops true [⟨some 92, .mov (.t 4), none, []⟩,
  ⟨some 93, .mov (.t 0), none, []⟩,
  ⟨some 94, .mov (.t 2), none, []⟩,
  ⟨some 95, .ia 4 (.t 93) (.t 94), none, [1, 2]⟩,
  ⟨some 96, .load 4 false (.t 95), none, [3]⟩,
  ⟨some 97, .mov (.t 0), none, []⟩,
  ⟨some 98, .mov (.t 16), none, []⟩,
  ⟨some 99, .ia 4 (.t 97) (.t 98), none, [5, 6]⟩,
  ⟨some 100, .load 4 false (.t 99), none, [7]⟩,
  ⟨some 101, .call (.dyn (.t 92)) [.t 96, .t 100], none, [0, 4, 8]⟩,
  ⟨some 102, .bin .lss (.t 101) (.c (.int .i64 0)), none, [9]⟩,
  ⟨some 103, .un .not (.t 102), none, [10]⟩] [92, 93, 94, 95, 96, 97, 98, 99, 100, 101, 102]
def R_slices_symMergeCmpFunc_18 : AC := .ops false [⟨some 104, .mov (.t 16), none, []⟩,
  ⟨some 105, .bin .add (.t 104) (.c (.int .i64 1)), none, []⟩,
  ⟨some 14, .mov (.t 105), none, []⟩] [16, 103, 104, 105]
def R_slices_symMergeCmpFunc_19 : AC := .ops false [⟨some 106, .mov (.t 16), none, []⟩,
  ⟨some 15, .mov (.t 106), none, []⟩] [16, 103, 106]
def L_slices_symMergeCmpFunc_3 : AC := (.seq (.seq R_slices_symMergeCmpFunc_15 (.cond (.t 85) .skip (.exit 4))) (.block 5 (.seq R_slices_symMergeCmpFunc_16 (.seq R_slices_symMergeCmpFunc_17 (.cond (.t 103) R_slices_symMergeCmpFunc_18 R_slices_symMergeCmpFunc_19)))))
def R_slices_symMergeCmpFunc_20 : AC := .ops false [⟨some 107, .mov (.t 2), none, []⟩,
  ⟨some 17, .mov (.t 107), none, []⟩] [2, 4, 15, 85, 107]
def R_slices_symMergeCmpFunc_21 : AC := .ops false [⟨some 108, .mov (.t 17), none, []⟩,
  ⟨some 109, .mov (.t 14), none, []⟩,
  ⟨some 110, .bin .gtr (.t 108) (.t 109), none, []⟩] [108, 109]
def R_slices_symMergeCmpFunc_23 : AC := .ops true [⟨some 113, .mov (.t 0), none, []⟩,
  ⟨some 114, .mov (.t 17), none, []⟩,
  ⟨some 115, .mov (.t 0), none, []⟩,
  ⟨some 116, .mov (.t 17), none, []⟩,
  ⟨some 117, .bin .sub (.t 116) (.c (.int .i64 1)), none, [3]⟩,
  ⟨some 118, .mov (.t 0), none, []⟩,
  ⟨some 119, .mov (.t 17), none, []⟩,
  ⟨some 120, .bin .sub (.t 119) (.c (.int .i64 1)), none, [6]⟩,
  ⟨some 121, .ia 4 (.t 118) (.t 120), none, [5, 7]⟩,
  ⟨some 122, .load 4 false (.t 121), none, [8]⟩,
  ⟨some 123, .mov (.t 0), none, []⟩,
  ⟨some 124, .mov (.t 17), none, []⟩,
  ⟨some 125, .ia 4 (.t 123) (.t 124), none, [10, 11]⟩,
  ⟨some 126, .load 4 false (.t 125), none, [12]⟩,
  ⟨some 127, .ia 4 (.t 113) (.t 114), none, [0, 1, 0, 1, 5, 6, 7, 8, 9, 13]⟩,
  ⟨none, .store 4 (.t 127) (.t 122), none, [14, 9, 0, 1, 5, 6, 7, 8, 9, 13]⟩,
  ⟨some 128, .ia 4 (.t 115) (.t 117), none, [2, 4, 0, 1, 2, 3, 4, 5, 6, 7, 8, 9, 10, 11, 12, 13, 14, 15]⟩,
  ⟨none, .store 4 (.t 128) (.t 126), none, [16, 13, 15, 0, 1, 2, 3, 4, 5, 6, 7, 8, 9, 10, 11, 12, 13, 14, 15]⟩] [110, 113, 114, 115, 116, 117, 118, 119, 120, 121, 122, 123, 124, 125, 126, 127, 128]
def R_slices_symMergeCmpFunc_22 : AC := .ops false [⟨some 111, .mov (.t 17), none, []⟩,
  ⟨some 112, .bin .sub (.t 111) (.c (.int .i64 1)), none, []⟩,
  ⟨some 17, .mov (.t 112), none, []⟩] [111, 112]
def L_slices_symMergeCmpFunc_4 : AC := (.seq (.seq R_slices_symMergeCmpFunc_21 (.cond (.t 110) .skip (.exit 6))) (.seq (.block 7 R_slices_symMergeCmpFunc_23) R_slices_symMergeCmpFunc_22))
def R_slices_symMergeCmpFunc_24 : AC := .ops false [⟨some 129, .mov (.t 1), none, []⟩,
  ⟨some 130, .mov (.t 3), none, []⟩,
  ⟨some 131, .bin .add (.t 129) (.t 130), none, []⟩,
  ⟨some 132, .conv .u64 (.t 131), none, []⟩,
  ⟨some 133, .bin .shr (.t 132) (.c (.int .u64 1)), none, []⟩,
  ⟨some 134, .conv .i64 (.t 133), none, []⟩,
  ⟨some 18, .mov (.t 134), none, []⟩] [80, 129, 130, 131, 132, 133, 134]
def R_slices_symMergeCmpFunc_25 : AC := .ops false [⟨some 135, .mov (.t 18), none, []⟩,
  ⟨some 136, .mov (.t 2), none, []⟩,
  ⟨some 137, .bin .add (.t 135) (.t 136), none, []⟩,
  ⟨some 19, .mov (.t 137), none, []⟩] [135, 136, 137]
def R_slices_symMergeCmpFunc_26 : AC := .ops false [⟨some 20, .mov (.c (.int .i64 0)), none, []⟩,
  ⟨some 21, .mov (.c (.int .i64 0)), none, []⟩] [20, 21]
def R_slices_symMergeCmpFunc_27 : AC := .ops false [⟨some 138, .mov (.t 2), none, []⟩,
  ⟨some 139, .mov (.t 18), none, []⟩,
  ⟨some 140, .bin .gtr (.t 138) (.t 139), none, []⟩] [138, 139]
def R_slices_symMergeCmpFunc_28 : AC := .ops false [⟨some 141, .mov (.t 19), none, []⟩,
  ⟨some 142, .mov (.t 3), none, []⟩,
  ⟨some 143, .bin .sub (.t 141) (.t 142), none, []⟩,
  ⟨some 20, .mov (.t 143), none, []⟩] [140, 141, 142, 143]
def R_slices_symMergeCmpFunc_29 : AC := .ops false [⟨some 144, .mov (.t 18), none, []⟩,
  ⟨some 21, .mov (.t 144), none, []⟩] [144]
def R_slices_symMergeCmpFunc_30 : AC := .ops false [⟨some 145, .mov (.t 1), none, []⟩,
  ⟨some 20, .mov (.t 145), none, []⟩] [140, 145]
def R_slices_symMergeCmpFunc_31 : AC := .ops false [⟨some 146, .mov (.t 2), none, []⟩,
  ⟨some 21, .mov (.t 146), none, []⟩] [146]
def R_slices_symMergeCmpFunc_32 : AC := .ops false [⟨some 147, .mov (.t 19), none, []⟩,
  ⟨some 148, .bin .sub (.t 147) (.c (.int .i64 1)), none, []⟩,
  ⟨some 22, .mov (.t 148), none, []⟩] [147, 148]
def R_slices_symMergeCmpFunc_33 : AC := .ops false [⟨some 149, .mov (.t 20), none, []⟩,
  ⟨some 150, .mov (.t 21), none, []⟩,
  ⟨some 151, .bin .lss (.t 149) (.t 150), none, []⟩] [149, 150]
def R_slices_symMergeCmpFunc_34 : AC := .ops false [⟨some 152, .mov (.t 20), none, []⟩,
  ⟨some 153, .mov (.t 21), none, []⟩,
  ⟨some 154, .bin .add (.t 152) (.t 153), none, []⟩,
  ⟨some 155, .conv .u64 (.t 154), none, []⟩,
  ⟨some 156, .bin .shr (.t 155) (.c (.int .u64 1)), none, []⟩,
  ⟨some 157, .conv .i64 (.t 156), none, []⟩,
  ⟨some 23, .mov (.t 157), none, []⟩] [151, 152, 153, 154, 155, 156, 157]
def R_slices_symMergeCmpFunc_35 : AC := .ops true [⟨some 158, .mov (.t 4), none, []⟩,
  ⟨some 159, .mov (.t 0), none, []⟩,
  ⟨some 160, .mov (.t 22), none, []⟩,
  ⟨some 161, .mov (.t 23), none, []⟩,
  ⟨some 162, .bin .sub (.t 160) (.t 161), none, [2, 3]⟩,
  ⟨some 163, .ia 4 (.t 159) (.t 162), none, [1, 4]⟩,
  ⟨some 164, .load 4 false (.t 163), none, [5]⟩,
  ⟨some 165, .mov (.t 0), none, []⟩,
  ⟨some 166, .mov (.t 23), none, []⟩,
  ⟨some 167, .ia 4 (.t 165) (.t 166), none, [7, 8]⟩,
  ⟨some 168, .load 4 false (.t 167), none, [9]⟩,
  ⟨some 169, .call (.dyn (.t 158)) [.t 164, .t 168], none, [0, 6, 10]⟩,
  ⟨some 170, .bin .lss (.t 169) (.c (.int .i64 0)), none, [11]⟩,
  ⟨some 171, .un .not (.t 170), none, [12]⟩] [158, 159, 160, 161, 162, 163, 164, 165, 166, 167, 168, 169, 170]
def R_slices_symMergeCmpFunc_36 : AC := .ops false [⟨some 172, .mov (.t 23), none, []⟩,
  ⟨some 173, .bin .add (.t 172) (.c (.int .i64 1)), none, []⟩,
  ⟨some 20, .mov (.t 173), none, []⟩] [23, 171, 172, 173]
def R_slices_symMergeCmpFunc_37 : AC := .ops false [⟨some 174, .mov (.t 23), none, []⟩,
  ⟨some 21, .mov (.t 174), none, []⟩] [23, 171, 174]
def L_slices_symMergeCmpFunc_5 : AC := (.seq (.seq R_slices_symMergeCmpFunc_33 (.cond (.t 151) .skip (.exit 8))) (.block 9 (.seq R_slices_symMergeCmpFunc_34 (.seq R_slices_symMergeCmpFunc_35 (.cond (.t 171) R_slices_symMergeCmpFunc_36 R_slices_symMergeCmpFunc_37)))))
def R_slices_symMergeCmpFunc_38 : AC := .ops false [⟨some 175, .mov (.t 19), none, []⟩,
  ⟨some 176, .mov (.t 20), none, []⟩,
  ⟨some 177, .bin .sub (.t 175) (.t 176), none, []⟩,
  ⟨some 24, .mov (.t 177), none, []⟩] [19, 21, 22, 151, 175, 176, 177]
def R_slices_symMergeCmpFunc_39 : AC := .ops false [⟨some 178, .mov (.t 20), none, []⟩,
  ⟨some 179, .mov (.t 2), none, []⟩,
  ⟨some 180, .bin .lss (.t 178) (.t 179), none, []⟩,
  ⟨some 181, .mov (.t 180), none, []⟩,
  ⟨some 182, .mov (.t 2), some (181, true), []⟩,
  ⟨some 183, .mov (.t 24), some (181, true), []⟩,
  ⟨some 184, .bin .lss (.t 182) (.t 183), some (181, true), []⟩,
  ⟨some 185, .pick (.t 181) (.t 184) (.c (.bool false)), none, []⟩] [178, 179, 180, 181, 182, 183, 184]
def R_slices_symMergeCmpFunc_40 : AC := .ops false [⟨some 186, .mov (.t 0), none, []⟩,
  ⟨some 187, .mov (.t 20), none, []⟩,
  ⟨some 188, .mov (.t 2), none, []⟩,
  ⟨some 189, .mov (.t 24), none, []⟩,
  ⟨some 190, .mov (.t 4), none, []⟩,
  ⟨some 191, .call (.fn 336) [.t 186, .t 187, .t 188, .t 189, .t 190], none, []⟩] [2, 185, 186, 187, 188, 189, 190, 191]
def R_slices_symMergeCmpFunc_41 : AC := .ops false [⟨some 192, .mov (.t 1), none, []⟩,
  ⟨some 193, .mov (.t 20), none, []⟩,
  ⟨some 194, .bin .lss (.t 192) (.t 193), none, []⟩,
  ⟨some 195, .mov (.t 194), none, []⟩,
  ⟨some 196, .mov (.t 20), some (195, true), []⟩,
  ⟨some 197, .mov (.t 18), some (195, true), []⟩,
  ⟨some 198, .bin .lss (.t 196) (.t 197), some (195, true), []⟩,
  ⟨some 199, .pick (.t 195) (.t 198) (.c (.bool false)), none, []⟩] [2, 185, 192, 193, 194, 195, 196, 197, 198]
def R_slices_symMergeCmpFunc_42 : AC := .ops false [⟨some 200, .mov (.t 0), none, []⟩,
  ⟨some 201, .mov (.t 1), none, []⟩,
  ⟨some 202, .mov (.t 20), none, []⟩,
  ⟨some 203, .mov (.t 18), none, []⟩,
  ⟨some 204, .mov (.t 4), none, []⟩,
  ⟨some 205, .call (.fn 328) [.t 200, .t 201, .t 202, .t 203, .t 204], none, []⟩] [1, 20, 199, 200, 201, 202, 203, 204, 205]
def R_slices_symMergeCmpFunc_43 : AC := .ops false [⟨some 206, .mov (.t 18), none, []⟩,
  ⟨some 207, .mov (.t 24), none, []⟩,
  ⟨some 208, .bin .lss (.t 206) (.t 207), none, []⟩,
  ⟨some 209, .mov (.t 208), none, []⟩,
  ⟨some 210, .mov (.t 24), some (209, true), []⟩,
  ⟨some 211, .mov (.t 3), some (209, true), []⟩,
  ⟨some 212, .bin .lss (.t 210) (.t 211), some (209, true), []⟩,
  ⟨some 213, .pick (.t 209) (.t 212) (.c (.bool false)), none, []⟩] [1, 20, 199, 206, 207, 208, 209, 210, 211, 212]
def R_slices_symMergeCmpFunc_44 : AC := .ops false [⟨some 214, .mov (.t 0), none, []⟩,
  ⟨some 215, .mov (.t 18), none, []⟩,
  ⟨some 216, .mov (.t 24), none, []⟩,
  ⟨some 217, .mov (.t 3), none, []⟩,
  ⟨some 218, .mov (.t 4), none, []⟩,
  ⟨some 219, .call (.fn 328) [.t 214, .t 215, .t 216, .t 217, .t 218], none, []⟩] [0, 3, 4, 18, 24, 213, 214, 215, 216, 217, 218, 219]
def F_slices_symMergeCmpFunc : AFunc := { ntmps := 220, nargs := 5, kills := [[25, 26, 27], [2, 28, 29], [3, 30], [31, 32], [33, 34, 35, 36, 37, 38, 39], [40, 41, 42, 43, 44, 45, 46, 47, 48, 49], [12, 50, 51, 52], [12, 50, 53], [1, 4, 11, 33, 54], [55, 56, 57], [59, 60], [58, 61, 62, 63, 64, 65, 66, 67, 68, 69, 70, 71, 72, 73, 74, 75, 76], [28, 77, 78, 79], [1, 3, 80, 81], [82], [83, 84], [85, 86, 87, 88, 89, 90, 91], [92, 93, 94, 95, 96, 97, 98, 99, 100, 101, 102], [16, 103, 104, 105], [16, 103, 106], [2, 4, 15, 85, 107], [108, 109], [111, 112], [110, 113, 114, 115, 116, 117, 118, 119, 120, 121, 122, 123, 124, 125, 126, 127, 128], [80, 129, 130, 131, 132, 133, 134], [135, 136, 137], [20, 21], [138, 139], [140, 141, 142, 143], [144], [140, 145], [146], [147, 148], [149, 150], [151, 152, 153, 154, 155, 156, 157], [158, 159, 160, 161, 162, 163, 164, 165, 166, 167, 168, 169, 170], [23, 171, 172, 173], [23, 171, 174], [19, 21, 22, 151, 175, 176, 177], [178, 179, 180, 181, 182, 183, 184], [2, 185, 186, 187, 188, 189, 190, 191], [2, 185, 192, 193, 194, 195, 196, 197, 198], [1, 20, 199, 200, 201, 202, 203, 204, 205], [1, 20, 199, 206, 207, 208, 209, 210, 211, 212], [0, 3, 4, 18, 24, 213, 214, 215, 216, 217, 218, 219]], results := [], body := (.seq (.seq R_slices_symMergeCmpFunc_0 (.cond (.t 28) (.seq R_slices_symMergeCmpFunc_1 (.seq R_slices_symMergeCmpFunc_2 (.seq (.block 0 (.loop L_slices_symMergeCmpFunc_1)) (.seq (.seq R_slices_symMergeCmpFunc_8 (.block 2 (.loop L_slices_symMergeCmpFunc_2))) .ret)))) .skip)) (.seq (.seq R_slices_symMergeCmpFunc_12 (.cond (.t 80) (.seq R_slices_symMergeCmpFunc_13 (.seq R_slices_symMergeCmpFunc_14 (.seq (.block 4 (.loop L_slices_symMergeCmpFunc_3)) (.seq (.seq R_slices_symMergeCmpFunc_20 (.block 6 (.loop L_slices_symMergeCmpFunc_4))) .ret)))) .skip)) (.seq R_slices_symMergeCmpFunc_24 (.seq R_slices_symMergeCmpFunc_25 (.seq R_slices_symMergeCmpFunc_26 (.seq (.seq R_slices_symMergeCmpFunc_27 (.cond (.t 140) (.seq R_slices_symMergeCmpFunc_28 R_slices_symMergeCmpFunc_29) (.seq R_slices_symMergeCmpFunc_30 R_slices_symMergeCmpFunc_31))) (.seq R_slices_symMergeCmpFunc_32 (.seq (.block 8 (.loop L_slices_symMergeCmpFunc_5)) (.seq R_slices_symMergeCmpFunc_38 (.seq (.seq R_slices_symMergeCmpFunc_39 (.cond (.t 185) R_slices_symMergeCmpFunc_40 .skip)) (.seq (.seq R_slices_symMergeCmpFunc_41 (.cond (.t 199) R_slices_symMergeCmpFunc_42 .skip)) (.seq R_slices_symMergeCmpFunc_43 (.cond (.t 213) R_slices_symMergeCmpFunc_44 .skip))))))))))))) }
abbrev k_slices_symMergeCmpFunc : Nat := 328
-- math/bits.Div64
def R_bits_Div64_0 : AC := .ops false [⟨some 6, .mov (.c (.int .u64 0)), none, []⟩,
  ⟨some 7, .mov (.c (.int .u64 0)), none, []⟩] [6, 7]
def R_bits_Div64_1 : AC := .ops false [⟨some 19, .mov (.t 2), none, []⟩,
  ⟨some 20, .bin .eql (.t 19) (.c (.int .u64 0)), none, []⟩] [19]
def R_bits_Div64_2 : AC := .ops false [⟨some 21, .load 1 true (.g 1), none, []⟩,
  ⟨none, .no, none, []⟩] [20, 21]
def R_bits_Div64_3 : AC := .ops false [⟨some 22, .mov (.t 2), none, []⟩,
  ⟨some 23, .mov (.t 0), none, []⟩,
  ⟨some 24, .bin .leq (.t 22) (.t 23), none, []⟩] [20, 22, 23]
def R_bits_Div64_4 : AC := .ops false [⟨some 25, .load 1 true (.g 0), none, []⟩,
  ⟨none, .no, none, []⟩] [24, 25]
def R_bits_Div64_5 : AC := .ops false [⟨some 26, .mov (.t 0), none, []⟩,
  ⟨some 27, .bin .eql (.t 26) (.c (.int .u64 0)), none, []⟩] [24, 26]
def R_bits_Div64_6 : AC := .ops true [⟨some 28, .mov (.t 1), none, []⟩,
  ⟨some 29, .mov (.t 2), none, []⟩,
  ⟨some 30, .bin .quo (.t 28) (.t 29), none, [0, 1]⟩,
  ⟨some 31, .mov (.t 1), none, []⟩,
  ⟨some 32, .mov (.t 2), none, []⟩,
  ⟨some 33, .bin .rem (.t 31) (.t 32), none, [3, 4]⟩,
  ⟨some 6, .mov (.t 30), none, [2, 0, 1, 2]⟩,
  ⟨some 7, .mov (.t 33), none, [5, 6, 0, 1, 2, 3, 4, 5, 6]⟩] [0, 1, 2, 27, 28, 29, 30, 31, 32, 33]
def R_bits_Div64_7 : AC := .ops false [⟨some 34, .mov (.t 2), none, []⟩,
  ⟨some 35, .call (.fn 337) [.t 34], none, []⟩,
  ⟨some 36, .conv .u64 (.t 35), none, []⟩,
  ⟨some 8, .mov (.t 36), none, []⟩] [27, 34, 35, 36]
def R_bits_Div64_8 : AC := .ops false [⟨some 37, .mov (.t 2), none, []⟩,
  ⟨some 38, .mov (.t 8), none, []⟩,
  ⟨some 39, .bin .shl (.t 37) (.t 38), none, []⟩,
  ⟨some 2, .mov (.t 39), none, []⟩] [37, 38, 39]
def R_bits_Div64_9 : AC := .ops false [⟨some 40, .mov (.t 2), none, []⟩,
  ⟨some 41, .bin .shr (.t 40) (.c (.int .u64 32)), none, []⟩,
  ⟨some 9, .mov (.t 41), none, []⟩] [40, 41]
def R_bits_Div64_10 : AC := .ops false [⟨some 42, .mov (.t 2), none, []⟩,
  ⟨some 43, .bin .and (.t 42) (.c (.int .u64 4294967295)), none, []⟩,
  ⟨some 10, .mov (.t 43), none, []⟩] [42, 43]
def R_bits_Div64_11 : AC := .ops false [⟨some 44, .mov (.t 0), none, []⟩,
  ⟨some 45, .mov (.t 8), none, []⟩,
  ⟨some 46, .bin .shl (.t 44) (.t 45), none, []⟩,
  ⟨some 47, .mov (.t 1), none, []⟩,
  ⟨some 48, .mov (.t 8), none, []⟩,
  ⟨some 49, .bin .sub (.c (.int .u64 64)) (.t 48), none, []⟩,
  ⟨some 50, .bin .shr (.t 47) (.t 49), none, []⟩,
  ⟨some 51, .bin .or (.t 46) (.t 50), none, []⟩,
  ⟨some 11, .mov (.t 51), none, []⟩] [0, 44, 45, 46, 47, 48, 49, 50, 51]
def R_bits_Div64_12 : AC := .ops false [⟨some 52, .mov (.t 1), none, []⟩,
  ⟨some 53, .mov (.t 8), none, []⟩,
  ⟨some 54, .bin .shl (.t 52) (.t 53), none, []⟩,
  ⟨some 12, .mov (.t 54), none, []⟩] [1, 52, 53, 54]
def R_bits_Div64_13 : AC := .ops false [⟨some 55, .mov (.t 12), none, []⟩,
  ⟨some 56, .bin .shr (.t 55) (.c (.int .u64 32)), none, []⟩,
  ⟨some 13, .mov (.t 56), none, []⟩] [55, 56]
def R_bits_Div64_14 : AC := .ops false [⟨some 57, .mov (.t 12), none, []⟩,
  ⟨some 58, .bin .and (.t 57) (.c (.int .u64 4294967295)), none, []⟩,
  ⟨some 14, .mov (.t 58), none, []⟩] [12, 57, 58]
def R_bits_Div64_15 : AC := .ops false [⟨some 59, .mov (.t 11), none, []⟩,
  ⟨some 60, .mov (.t 9), none, []⟩,
  ⟨some 61, .bin .quo (.t 59) (.t 60), none, []⟩,
  ⟨some 15, .mov (.t 61), none, []⟩] [59, 60, 61]
def R_bits_Div64_16 : AC := .ops false [⟨some 62, .mov (.t 11), none, []⟩,
  ⟨some 63, .mov (.t 15), none, []⟩,
  ⟨some 64, .mov (.t 9), none, []⟩,
  ⟨some 65, .bin .mul (.t 63) (.t 64), none, []⟩,
  ⟨some 66, .bin .sub (.t 62) (.t 65), none, []⟩,
  ⟨some 16, .mov (.t 66), none, []⟩] [62, 63, 64, 65, 66]
def R_bits_Div64_17 : AC := .ops false [⟨some 67, .mov (.t 15), none, []⟩,
  ⟨some 68, .bin .geq (.t 67) (.c (.int .u64 4294967296)), none, []⟩,
  ⟨some 69, .mov (.t 68), none, []⟩,
  ⟨some 70, .mov (.t 15), some (69, false), []⟩,
  ⟨some 71, .mov (.t 10), some (69, false), []⟩,
  ⟨some 72, .bin .mul (.t 70) (.t 71), some (69, false), []⟩,
  ⟨some 73, .mov (.t 16), some (69, false), []⟩,
  ⟨some 74, .bin .mul (.c (.int .u64 4294967296)) (.t 73), some (69, false), []⟩,
  ⟨some 75, .mov (.t 13), some (69, false), []⟩,
  ⟨some 76, .bin .add (.t 74) (.t 75), some (69, false), []⟩,
  ⟨some 77, .bin .gtr (.t 72) (.t 76), some (69, false), []⟩,
  ⟨some 78, .pick (.t 69) (.c (.bool true)) (.t 77), none, []⟩] [67, 68, 69, 70, 71, 72, 73, 74, 75, 76, 77, 85]
def R_bits_Div64_18 : AC := .ops false [⟨some 79, .mov (.t 15), none, []⟩,
  ⟨some 80, .bin .sub (.t 79) (.c (.int .u64 1)), none, []⟩,
  ⟨some 15, .mov (.t 80), none, []⟩] [78, 79, 80]
def R_bits_Div64_19 : AC := .ops false [⟨some 81, .mov (.t 16), none, []⟩,
  ⟨some 82, .mov (.t 9), none, []⟩,
  ⟨some 83, .bin .add (.t 81) (.t 82), none, []⟩,
  ⟨some 16, .mov (.t 83), none, []⟩] [81, 82, 83]
def R_bits_Div64_20 : AC := .ops false [⟨some 84, .mov (.t 16), none, []⟩,
  ⟨some 85, .bin .geq (.t 84) (.c (.int .u64 4294967296)), none, []⟩] [84]
def L_bits_Div64_1 : AC := (.seq (.seq R_bits_Div64_17 (.cond (.t 78) .skip (.exit 0))) (.block 1 (.seq R_bits_Div64_18 (.seq R_bits_Div64_19 (.seq R_bits_Div64_20 (.cond (.t 85) (.exit 0) .skip))))))
def R_bits_Div64_21 : AC := .ops false [⟨some 86, .mov (.t 11), none, []⟩,
  ⟨some 87, .bin .mul (.t 86) (.c (.int .u64 4294967296)), none, []⟩,
  ⟨some 88, .mov (.t 13), none, []⟩,
  ⟨some 89, .bin .add (.t 87) (.t 88), none, []⟩,
  ⟨some 90, .mov (.t 15), none, []⟩,
  ⟨some 91, .mov (.t 2), none, []⟩,
  ⟨some 92, .bin .mul (.t 90) (.t 91), none, []⟩,
  ⟨some 93, .bin .sub (.t 89) (.t 92), none, []⟩,
  ⟨some 17, .mov (.t 93), none, []⟩] [11, 13, 16, 78, 85, 86, 87, 88, 89, 90, 91, 92, 93]
def R_bits_Div64_22 : AC := .ops false [⟨some 94, .mov (.t 17), none, []⟩,
  ⟨some 95, .mov (.t 9), none, []⟩,
  ⟨some 96, .bin .quo (.t 94) (.t 95), none, []⟩,
  ⟨some 18, .mov (.t 96), none, []⟩] [94, 95, 96]
def R_bits_Div64_23 : AC := .ops false [⟨some 97, .mov (.t 17), none, []⟩,
  ⟨some 98, .mov (.t 18), none, []⟩,
  ⟨some 99, .mov (.t 9), none, []⟩,
  ⟨some 100, .bin .mul (.t 98) (.t 99), none, []⟩,
  ⟨some 101, .bin .sub (.t 97) (.t 100), none, []⟩,
  ⟨some 16, .mov (.t 101), none, []⟩] [97, 98, 99, 100, 101]
def R_bits_Div64_24 : AC := .ops false [⟨some 102, .mov (.t 18), none, []⟩,
  ⟨some 103, .bin .geq (.t 102) (.c (.int .u64 4294967296)), none, []⟩,
  ⟨some 104, .mov (.t 103), none, []⟩,
  ⟨some 105, .mov (.t 18), some (104, false), []⟩,
  ⟨some 106, .mov (.t 10), some (104, false), []⟩,
  ⟨some 107, .bin .mul (.t 105) (.t 106), some (104, false), []⟩,
  ⟨some 108, .mov (.t 16), some (104, false), []⟩,
  ⟨some 109, .bin .mul (.c (.int .u64 4294967296)) (.t 108), some (104, false), []⟩,
  ⟨some 110, .mov (.t 14), some (104, false), []⟩,
  ⟨some 111, .bin .add (.t 109) (.t 110), some (104, false), []⟩,
  ⟨some 112, .bin .gtr (.t 107) (.t 111), some (104, false), []⟩,
  ⟨some 113, .pick (.t 104) (.c (.bool true)) (.t 112), none, []⟩] [102, 103, 104, 105, 106, 107, 108, 109, 110, 111, 112, 120]
def R_bits_Div64_25 : AC := .ops false [⟨some 114, .mov (.t 18), none, []⟩,
  ⟨some 115, .bin .sub (.t 114) (.c (.int .u64 1)), none, []⟩,
  ⟨some 18, .mov (.t 115), none, []⟩] [113, 114, 115]
def R_bits_Div64_26 : AC := .ops false [⟨some 116, .mov (.t 16), none, []⟩,
  ⟨some 117, .mov (.t 9), none, []⟩,
  ⟨some 118, .bin .add (.t 116) (.t 117), none, []⟩,
  ⟨some 16, .mov (.t 118), none, []⟩] [116, 117, 118]
def R_bits_Div64_27 : AC := .ops false [⟨some 119, .mov (.t 16), none, []⟩,
  ⟨some 120, .bin .geq (.t 119) (.c (.int .u64 4294967296)), none, []⟩] [119]
def L_bits_Div64_2 : AC := (.seq (.seq R_bits_Div64_24 (.cond (.t 113) .skip (.exit 2))) (.block 3 (.seq R_bits_Div64_25 (.seq R_bits_Div64_26 (.seq R_bits_Div64_27 (.cond (.t 120) (.exit 2) .skip))))))
def R_bits_Div64_28 : AC := .ops false [⟨some 121, .mov (.t 15), none, []⟩,
  ⟨some 122, .bin .mul (.t 121) (.c (.int .u64 4294967296)), none, []⟩,
  ⟨some 123, .mov (.t 18), none, []⟩,
  ⟨some 124, .bin .add (.t 122) (.t 123), none, []⟩,
  ⟨some 125, .mov (.t 17), none, []⟩,
  ⟨some 126, .bin .mul (.t 125) (.c (.int .u64 4294967296)), none, []⟩,
  ⟨some 127, .mov (.t 14), none, []⟩,
  ⟨some 128, .bin .add (.t 126) (.t 127), none, []⟩,
  ⟨some 129, .mov (.t 18), none, []⟩,
  ⟨some 130, .mov (.t 2), none, []⟩,
  ⟨some 131, .bin .mul (.t 129) (.t 130), none, []⟩,
  ⟨some 132, .bin .sub (.t 128) (.t 131), none, []⟩,
  ⟨some 133, .mov (.t 8), none, []⟩,
  ⟨some 134, .bin .shr (.t 132) (.t 133), none, []⟩,
  ⟨some 6, .mov (.t 124), none, []⟩,
  ⟨some 7, .mov (.t 134), none, []⟩] [2, 8, 9, 10, 14, 15, 16, 17, 18, 113, 120, 121, 122, 123, 124, 125, 126, 127, 128, 129, 130, 131, 132, 133, 134]
def F_bits_Div64 : AFunc := { ntmps := 135, nargs := 3, kills := [[6, 7], [19], [20, 21], [20, 22, 23], [24, 25], [24, 26], [0, 1, 2, 27, 28, 29, 30, 31, 32, 33], [27, 34, 35, 36], [37, 38, 39], [40, 41], [42, 43], [0, 44, 45, 46, 47, 48, 49, 50, 51], [1, 52, 53, 54], [55, 56], [12, 57, 58], [59, 60, 61], [62, 63, 64, 65, 66], [67, 68, 69, 70, 71, 72, 73, 74, 75, 76, 77, 85], [78, 79, 80], [81, 82, 83], [84], [11, 13, 16, 78, 85, 86, 87, 88, 89, 90, 91, 92, 93], [94, 95, 96], [97, 98, 99, 100, 101], [102, 103, 104, 105, 106, 107, 108, 109, 110, 111, 112, 120], [113, 114, 115], [116, 117, 118], [119], [2, 8, 9, 10, 14, 15, 16, 17, 18, 113, 120, 121, 122, 123, 124, 125, 126, 127, 128, 129, 130, 131, 132, 133, 134]], results := [.t 6, .t 7], body := (.seq R_bits_Div64_0 (.seq (.seq R_bits_Div64_1 (.cond (.t 20) R_bits_Div64_2 .skip)) (.seq (.seq R_bits_Div64_3 (.cond (.t 24) R_bits_Div64_4 .skip)) (.seq (.seq R_bits_Div64_5 (.cond (.t 27) (.seq R_bits_Div64_6 .ret) .skip)) (.seq R_bits_Div64_7 (.seq R_bits_Div64_8 (.seq R_bits_Div64_9 (.seq R_bits_Div64_10 (.seq R_bits_Div64_11 (.seq R_bits_Div64_12 (.seq R_bits_Div64_13 (.seq R_bits_Div64_14 (.seq R_bits_Div64_15 (.seq R_bits_Div64_16 (.seq (.block 0 (.loop L_bits_Div64_1)) (.seq R_bits_Div64_21 (.seq R_bits_Div64_22 (.seq R_bits_Div64_23 (.seq (.block 2 (.loop L_bits_Div64_2)) (.seq R_bits_Div64_28 .ret)))))))))))))))))))) }
abbrev k_bits_Div64 : Nat := 329
-- math/bits.Add32
def R_bits_Add32_0 : AC := .ops false [⟨some 6, .mov (.c (.int .u32 0)), none, []⟩,
  ⟨some 7, .mov (.c (.int .u32 0)), none, []⟩] [6, 7]
def R_bits_Add32_1 : AC := .ops false [⟨some 9, .mov (.t 0), none, []⟩,
  ⟨some 10, .conv .u64 (.t 9), none, []⟩,
  ⟨some 11, .mov (.t 1), none, []⟩,
  ⟨some 12, .conv .u64 (.t 11), none, []⟩,
  ⟨some 13, .bin .add (.t 10) (.t 12), none, []⟩,
  ⟨some 14, .mov (.t 2), none, []⟩,
  ⟨some 15, .conv .u64 (.t 14), none, []⟩,
  ⟨some 16, .bin .add (.t 13) (.t 15), none, []⟩,
  ⟨some 8, .mov (.t 16), none, []⟩] [0, 1, 2, 9, 10, 11, 12, 13, 14, 15, 16]
def R_bits_Add32_2 : AC := .ops false [⟨some 17, .mov (.t 8), none, []⟩,
  ⟨some 18, .conv .u32 (.t 17), none, []⟩,
  ⟨some 6, .mov (.t 18), none, []⟩] [17, 18]
def R_bits_Add32_3 : AC := .ops false [⟨some 19, .mov (.t 8), none, []⟩,
  ⟨some 20, .bin .shr (.t 19) (.c (.int .u64 32)), none, []⟩,
  ⟨some 21, .conv .u32 (.t 20), none, []⟩,
  ⟨some 7, .mov (.t 21), none, []⟩] [8, 19, 20, 21]
def F_bits_Add32 : AFunc := { ntmps := 22, nargs := 3, kills := [[6, 7], [0, 1, 2, 9, 10, 11, 12, 13, 14, 15, 16], [17, 18], [8, 19, 20, 21]], results := [.t 6, .t 7], body := (.seq R_bits_Add32_0 (.seq R_bits_Add32_1 (.seq R_bits_Add32_2 (.seq R_bits_Add32_3 .ret)))) }
abbrev k_bits_Add32 : Nat := 330
-- suffrage/nat.limb
def R_nat_limb_0 : AC := .ops false [⟨some 4, .mov (.c (.int .u32 0)), none, []⟩] [4]
def R_nat_limb_1 : AC := .ops false [⟨some 5, .mov (.t 1), none, []⟩,
  ⟨some 6, .mov (.t 0), none, []⟩,
  ⟨some 7, .len (.t 6), none, []⟩,
  ⟨some 8, .bin .geq (.t 5) (.t 7), none, []⟩] [5, 6, 7]
def R_nat_limb_2 : AC := .ops false [⟨some 4, .mov (.c (.int .u32 0)), none, []⟩] [0, 1, 8]
def R_nat_limb_3 : AC := .ops false [⟨some 9, .mov (.t 0), none, []⟩,
  ⟨some 10, .mov (.t 1), none, []⟩,
  ⟨some 11, .ia 1 (.t 9) (.t 10), none, []⟩,
  ⟨some 12, .load 1 true (.t 11), none, []⟩,
  ⟨some 4, .mov (.t 12), none, []⟩] [0, 1, 8, 9, 10, 11, 12]
def F_nat_limb : AFunc := { ntmps := 13, nargs := 2, kills := [[4], [5, 6, 7], [0, 1, 8], [0, 1, 8, 9, 10, 11, 12]], results := [.t 4], body := (.seq R_nat_limb_0 (.seq (.seq R_nat_limb_1 (.cond (.t 8) (.seq R_nat_limb_2 .ret) .skip)) (.seq R_nat_limb_3 .ret))) }
abbrev k_nat_limb : Nat := 331
-- suffrage/nat.less
def R_nat_less_0 : AC := .ops false [⟨some 4, .mov (.c (.lst 0 [] (some 0))), none, []⟩] [4]
def R_nat_less_1 : AC := .ops false [⟨some 8, .mov (.t 0), none, []⟩,
  ⟨some 9, .len (.t 8), none, []⟩,
  ⟨some 10, .mkslice 1 4 [.int .u32 0] (.t 9) (.t 9), none, []⟩,
  ⟨some 5, .mov (.t 10), none, []⟩] [8, 9, 10]
def R_nat_less_2 : AC := .ops false [⟨some 6, .mov (.c (.int .u32 0)), none, []⟩] []
def R_nat_less_3 : AC := .ops false [⟨some 11, .mov (.t 5), none, []⟩,
  ⟨some 12, .len (.t 11), none, []⟩,
  ⟨some 13, .mov (.c (.int .i64 0)), none, []⟩] [11]
def R_nat_less_4 : AC := .ops false [⟨some 14, .bin .lss (.t 13) (.t 12), none, []⟩] []
def R_nat_less_5 : AC := .ops false [⟨some 15, .mov (.t 13), none, []⟩,
  ⟨some 7, .mov (.t 15), none, []⟩] [14, 15]
def R_nat_less_6 : AC := .ops true [⟨some 17, .mov (.t 5), none, []⟩,
  ⟨some 18, .mov (.t 7), none, []⟩,
  ⟨some 19, .mov (.t 0), none, []⟩,
  ⟨some 20, .mov (.t 7), none, []⟩,
  ⟨some 21, .ia 1 (.t 19) (.t 20), none, [2, 3]⟩,
  ⟨some 22, .load 1 true (.t 21), none, [4]⟩,
  ⟨some 23, .mov (.t 1), none, []⟩,
  ⟨some 24, .mov (.t 7), none, []⟩,
  ⟨some 25, .call (.fn 331) [.t 23, .t 24], none, [6, 7]⟩,
  ⟨some 26, .mov (.t 6), none, []⟩,
  ⟨some 27, .call (.fn 333) [.t 22, .t 25, .t 26], none, [5, 8, 9, 8]⟩,
  ⟨some 16, .mov (.t 27), none, [10]⟩,
  ⟨some 28, .ext (.t 16) 0, none, [11]⟩,
  ⟨some 29, .ext (.t 16) 1, none, [11]⟩,
  ⟨some 30, .ia 1 (.t 17) (.t 18), none, [0, 1, 0, 1, 2, 3, 4, 5, 6, 7, 8, 9, 10, 11, 12]⟩,
  ⟨none, .store 1 (.t 30) (.t 28), none, [14, 12, 10, 0, 1, 2, 3, 4, 5, 6, 7, 8, 9, 10, 11, 12]⟩,
  ⟨some 6, .mov (.t 29), none, [13, 15, 0, 1, 2, 3, 4, 5, 6, 7, 8, 9, 10, 11, 12, 13, 14, 15]⟩] [7, 16, 17, 18, 19, 20, 21, 22, 23, 24, 25, 26, 27, 28, 29, 30]
def R_nat_less_7 : AC := .ops false [⟨some 31, .bin .add (.t 13) (.c (.int .i64 1)), none, []⟩,
  ⟨some 13, .mov (.t 31), none, []⟩] [31]
def L_nat_less_1 : AC := (.seq R_nat_less_4 (.seq (.cond (.t 14) .skip (.exit 0)) (.seq (.block 1 (.seq R_nat_less_5 R_nat_less_6)) R_nat_less_7)))
def R_nat_less_8 : AC := .ops false [⟨some 32, .mov (.t 5), none, []⟩,
  ⟨some 33, .call (.fn 164) [.t 32], none, []⟩,
  ⟨some 4, .mov (.t 33), none, []⟩] [0, 1, 5, 6, 12, 13, 14, 32, 33]
def F_nat_less : AFunc := { ntmps := 34, nargs := 2, kills := [[4], [8, 9, 10], [], [11], [], [14, 15], [7, 16, 17, 18, 19, 20, 21, 22, 23, 24, 25, 26, 27, 28, 29, 30], [31], [0, 1, 5, 6, 12, 13, 14, 32, 33]], results := [.t 4], body := (.seq R_nat_less_0 (.seq R_nat_less_1 (.seq R_nat_less_2 (.seq (.seq R_nat_less_3 (.block 0 (.loop L_nat_less_1))) (.seq R_nat_less_8 .ret))))) }
abbrev k_nat_less : Nat := 332
-- math/bits.Sub32
def R_bits_Sub32_0 : AC := .ops false [⟨some 6, .mov (.c (.int .u32 0)), none, []⟩,
  ⟨some 7, .mov (.c (.int .u32 0)), none, []⟩] [6, 7]
def R_bits_Sub32_1 : AC := .ops false [⟨some 8, .mov (.t 0), none, []⟩,
  ⟨some 9, .mov (.t 1), none, []⟩,
  ⟨some 10, .bin .sub (.t 8) (.t 9), none, []⟩,
  ⟨some 11, .mov (.t 2), none, []⟩,
  ⟨some 12, .bin .sub (.t 10) (.t 11), none, []⟩,
  ⟨some 6, .mov (.t 12), none, []⟩] [2, 8, 9, 10, 11, 12]
def R_bits_Sub32_2 : AC := .ops false [⟨some 13, .mov (.t 0), none, []⟩,
  ⟨some 14, .un .xor (.t 13), none, []⟩,
  ⟨some 15, .mov (.t 1), none, []⟩,
  ⟨some 16, .bin .and (.t 14) (.t 15), none, []⟩,
  ⟨some 17, .mov (.t 0), none, []⟩,
  ⟨some 18, .mov (.t 1), none, []⟩,
  ⟨some 19, .bin .xor (.t 17) (.t 18), none, []⟩,
  ⟨some 20, .un .xor (.t 19), none, []⟩,
  ⟨some 21, .mov (.t 6), none, []⟩,
  ⟨some 22, .bin .and (.t 20) (.t 21), none, []⟩,
  ⟨some 23, .bin .or (.t 16) (.t 22), none, []⟩,
  ⟨some 24, .bin .shr (.t 23) (.c (.int .u64 31)), none, []⟩,
  ⟨some 7, .mov (.t 24), none, []⟩] [0, 1, 13, 14, 15, 16, 17, 18, 19, 20, 21, 22, 23, 24]
def F_bits_Sub32 : AFunc := { ntmps := 25, nargs := 3, kills := [[6, 7], [2, 8, 9, 10, 11, 12], [0, 1, 13, 14, 15, 16, 17, 18, 19, 20, 21, 22, 23, 24]], results := [.t 6, .t 7], body := (.seq R_bits_Sub32_0 (.seq R_bits_Sub32_1 (.seq R_bits_Sub32_2 .ret))) }
abbrev k_bits_Sub32 : Nat := 333
-- slices.rotateCmpFunc[suffrage/api.Link]
def R_slices_rotateCmpFunc_0 : AC := .ops false [⟨some 12, .mov (.t 2), none, []⟩,
  ⟨some 13, .mov (.t 1), none, []⟩,
  ⟨some 14, .bin .sub (.t 12) (.t 13), none, []⟩,
  ⟨some 10, .mov (.t 14), none, []⟩] [1, 12, 13, 14]
def R_slices_rotateCmpFunc_1 : AC := .ops false [⟨some 15, .mov (.t 3), none, []⟩,
  ⟨some 16, .mov (.t 2), none, []⟩,
  ⟨some 17, .bin .sub (.t 15) (.t 16), none, []⟩,
  ⟨some 11, .mov (.t 17), none, []⟩] [3, 15, 16, 17]
def R_slices_rotateCmpFunc_2 : AC := .ops false [⟨some 18, .mov (.t 10), none, []⟩,
  ⟨some 19, .mov (.t 11), none, []⟩,
  ⟨some 20, .bin .neq (.t 18) (.t 19), none, []⟩] [18, 19]
def R_slices_rotateCmpFunc_3 : AC := .ops false [⟨some 21, .mov (.t 10), none, []⟩,
  ⟨some 22, .mov (.t 11), none, []⟩,
  ⟨some 23, .bin .gtr (.t 21) (.t 22), none, []⟩] [20, 21, 22]
def R_slices_rotateCmpFunc_4 : AC := .ops false [⟨some 24, .mov (.t 0), none, []⟩,
  ⟨some 25, .mov (.t 2), none, []⟩,
  ⟨some 26, .mov (.t 10), none, []⟩,
  ⟨some 27, .bin .sub (.t 25) (.t 26), none, []⟩,
  ⟨some 28, .mov (.t 2), none, []⟩,
  ⟨some 29, .mov (.t 11), none, []⟩,
  ⟨some 30, .mov (.t 4), none, []⟩,
  ⟨some 31, .call (.fn 338) [.t 24, .t 27, .t 28, .t 29, .t 30], none, []⟩] [23, 24, 25, 26, 27, 28, 29, 30, 31]
def R_slices_rotateCmpFunc_5 : AC := .ops false [⟨some 32, .mov (.t 10), none, []⟩,
  ⟨some 33, .mov (.t 11), none, []⟩,
  ⟨some 34, .bin .sub (.t 32) (.t 33), none, []⟩,
  ⟨some 10, .mov (.t 34), none, []⟩] [32, 33, 34]
def R_slices_rotateCmpFunc_6 : AC := .ops false [⟨some 35, .mov (.t 0), none, []⟩,
  ⟨some 36, .mov (.t 2), none, []⟩,
  ⟨some 37, .mov (.t 10), none, []⟩,
  ⟨some 38, .bin .sub (.t 36) (.t 37), none, []⟩,
  ⟨some 39, .mov (.t 2), none, []⟩,
  ⟨some 40, .mov (.t 11), none, []⟩,
  ⟨some 41, .bin .add (.t 39) (.t 40), none, []⟩,
  ⟨some 42, .mov (.t 10), none, []⟩,
  ⟨some 43, .bin .sub (.t 41) (.t 42), none, []⟩,
  ⟨some 44, .mov (.t 10), none, []⟩,
  ⟨some 45, .mov (.t 4), none, []⟩,
  ⟨some 46, .call (.fn 338) [.t 35, .t 38, .t 43, .t 44, .t 45], none, []⟩] [23, 35, 36, 37, 38, 39, 40, 41, 42, 43, 44, 45, 46]
def R_slices_rotateCmpFunc_7 : AC := .ops false [⟨some 47, .mov (.t 11), none, []⟩,
  ⟨some 48, .mov (.t 10), none, []⟩,
  ⟨some 49, .bin .sub (.t 47) (.t 48), none, []⟩,
  ⟨some 11, .mov (.t 49), none, []⟩] [47, 48, 49]
def L_slices_rotateCmpFunc_1 : AC := (.seq (.seq R_slices_rotateCmpFunc_2 (.cond (.t 20) .skip (.exit 0))) (.block 1 (.seq R_slices_rotateCmpFunc_3 (.cond (.t 23) (.seq R_slices_rotateCmpFunc_4 R_slices_rotateCmpFunc_5) (.seq R_slices_rotateCmpFunc_6 R_slices_rotateCmpFunc_7)))))
def R_slices_rotateCmpFunc_8 : AC := .ops false [⟨some 50, .mov (.t 0), none, []⟩,
  ⟨some 51, .mov (.t 2), none, []⟩,
  ⟨some 52, .mov (.t 10), none, []⟩,
  ⟨some 53, .bin .sub (.t 51) (.t 52), none, []⟩,
  ⟨some 54, .mov (.t 2), none, []⟩,
  ⟨some 55, .mov (.t 10), none, []⟩,
  ⟨some 56, .mov (.t 4), none, []⟩,
  ⟨some 57, .call (.fn 338) [.t 50, .t 53, .t 54, .t 55, .t 56], none, []⟩] [0, 2, 4, 10, 11, 20, 50, 51, 52, 53, 54, 55, 56, 57]
def F_slices_rotateCmpFunc : AFunc := { ntmps := 58, nargs := 5, kills := [[1, 12, 13, 14], [3, 15, 16, 17], [18, 19], [20, 21, 22], [23, 24, 25, 26, 27, 28, 29, 30, 31], [32, 33, 34], [23, 35, 36, 37, 38, 39, 40, 41, 42, 43, 44, 45, 46], [47, 48, 49], [0, 2, 4, 10, 11, 20, 50, 51, 52, 53, 54, 55, 56, 57]], results := [], body := (.seq R_slices_rotateCmpFunc_0 (.seq R_slices_rotateCmpFunc_1 (.seq (.block 0 (.loop L_slices_rotateCmpFunc_1)) R_slices_rotateCmpFunc_8))) }
abbrev k_slices_rotateCmpFunc : Nat := 336
-- math/bits.LeadingZeros64
def R_bits_LeadingZeros64_0 : AC := .ops false [⟨some 2, .mov (.c (.int .i64 0)), none, []⟩] [2]
def R_bits_LeadingZeros64_1 : AC := .ops false [⟨some 3, .mov (.t 0), none, []⟩,
  ⟨some 4, .call (.fn 160) [.t 3], none, []⟩,
  ⟨some 5, .bin .sub (.c (.int .i64 64)) (.t 4), none, []⟩,
  ⟨some 2, .mov (.t 5), none, []⟩] [0, 3, 4, 5]
def F_bits_LeadingZeros64 : AFunc := { ntmps := 6, nargs := 1, kills := [[2], [0, 3, 4, 5]], results := [.t 2], body := (.seq R_bits_LeadingZeros64_0 (.seq R_bits_LeadingZeros64_1 .ret)) }
abbrev k_bits_LeadingZeros64 : Nat := 337
-- slices.swapRangeCmpFunc[suffrage/api.Link]
def R_slices_swapRangeCmpFunc_0 : AC := .ops false [⟨some 10, .mov (.c (.int .i64 0)), none, []⟩] [4]
def R_slices_swapRangeCmpFunc_1 : AC := .ops false [⟨some 11, .mov (.t 10), none, []⟩,
  ⟨some 12, .mov (.t 3), none, []⟩,
  ⟨some 13, .bin .lss (.t 11) (.t 12), none, []⟩] [11, 12]
def R_slices_swapRangeCmpFunc_3 : AC := .ops true [⟨some 16, .mov (.t 0), none, []⟩,
  ⟨some 17, .mov (.t 1), none, []⟩,
  ⟨some 18, .mov (.t 10), none, []⟩,
  ⟨some 19, .bin .add (.t 17) (.t 18), none, [1, 2]⟩,
  ⟨some 20, .mov (.t 0), none, []⟩,
  ⟨some 21, .mov (.t 2), none, []⟩,
  ⟨some 22, .mov (.t 10), none, []⟩,
  ⟨some 23, .bin .add (.t 21) (.t 22), none, [5, 6]⟩,
  ⟨some 24, .mov (.t 0), none, []⟩,
  ⟨some 25, .mov (.t 2), none, []⟩,
  ⟨some 26, .mov (.t 10), none, []⟩,
  ⟨some 27, .bin .add (.t 25) (.t 26), none, [9, 10]⟩,
  ⟨some 28, .ia 4 (.t 24) (.t 27), none, [8, 11]⟩,
  ⟨some 29, .load 4 false (.t 28), none, [12]⟩,
  ⟨some 30, .mov (.t 0), none, []⟩,
  ⟨some 31, .mov (.t 1), none, []⟩,
  ⟨some 32, .mov (.t 10), none, []⟩,
  ⟨some 33, .bin .add (.t 31) (.t 32), none, [15, 16]⟩,
  ⟨some 34, .ia 4 (.t 30) (.t 33), none, [14, 17]⟩,
  ⟨some 35, .load 4 false (.t 34), none, [18]⟩,
  ⟨some 36, .ia 4 (.t 16) (.t 19), none, [0, 3, 0, 1, 2, 3, 8, 9, 10, 11, 12, 13, 19]⟩,
  ⟨none, .store 4 (.t 36) (.t 29), none, [20, 13, 0, 1, 2, 3, 8, 9, 10, 11, 12, 13, 19]⟩,
  ⟨some 37, .ia 4 (.t 20) (.t 23), none, [4, 7, 0, 1, 2, 3, 4, 5, 6, 7, 8, 9, 10, 11, 12, 13, 14, 15, 16, 17, 18, 19, 20, 21]⟩,
  ⟨none, .store 4 (.t 37) (.t 35), none, [22, 19, 21, 0, 1, 2, 3, 4, 5, 6, 7, 8, 9, 10, 11, 12, 13, 14, 15, 16, 17, 18, 19, 20, 21]⟩] [13, 16, 17, 18, 19, 20, 21, 22, 23, 24, 25, 26, 27, 28, 29, 30, 31, 32, 33, 34, 35, 36, 37]
def R_slices_swapRangeCmpFunc_2 : AC := .ops false [⟨some 14, .mov (.t 10), none, []⟩,
  ⟨some 15, .bin .add (.t 14) (.c (.int .i64 1)), none, []⟩,
  ⟨some 10, .mov (.t 15), none, []⟩] [14, 15]
def L_slices_swapRangeCmpFunc_1 : AC := (.seq (.seq R_slices_swapRangeCmpFunc_1 (.cond (.t 13) .skip (.exit 0))) (.seq (.block 1 R_slices_swapRangeCmpFunc_3) R_slices_swapRangeCmpFunc_2))
def F_slices_swapRangeCmpFunc : AFunc := { ntmps := 38, nargs := 5, kills := [[4], [11, 12], [14, 15], [13, 16, 17, 18, 19, 20, 21, 22, 23, 24, 25, 26, 27, 28, 29, 30, 31, 32, 33, 34, 35, 36, 37]], results := [], body := (.seq R_slices_swapRangeCmpFunc_0 (.block 0 (.loop L_slices_swapRangeCmpFunc_1))) }
abbrev k_slices_swapRangeCmpFunc : Nat := 338
-- (suffrage/coombs.most).elects
def R_coombs_most_elects_0 : AC := .ops false [⟨some 3, .box (.t 0), none, []⟩,
  ⟨some 4, .box (.t 1), none, []⟩,
  ⟨some 6, .mov (.c (.int .i64 0)), none, []⟩,
  ⟨some 7, .mov (.c (.bool false)), none, []⟩] [0, 1, 3, 6, 7]
def R_coombs_most_elects_1 : AC := .ops false [⟨some 8, .mov (.c (.int .i64 0)), none, []⟩] []
def R_coombs_most_elects_2 : AC := .ops false [⟨some 12, .load 1 true (.t 4), none, []⟩,
  ⟨some 13, .len (.t 12), none, []⟩,
  ⟨some 14, .mov (.c (.int .i64 0)), none, []⟩] []
def R_coombs_most_elects_3 : AC := .ops false [⟨some 15, .bin .lss (.t 14) (.t 13), none, []⟩] []
def R_coombs_most_elects_4 : AC := .ops false [⟨some 16, .ia 1 (.t 12) (.t 14), none, []⟩,
  ⟨some 17, .load 1 true (.t 16), none, []⟩,
  ⟨some 10, .mov (.t 17), none, []⟩] [15, 16, 17]
def R_coombs_most_elects_5 : AC := .ops false [⟨some 18, .mov (.t 8), none, []⟩,
  ⟨some 19, .mov (.t 10), none, []⟩,
  ⟨some 20, .bin .add (.t 18) (.t 19), none, []⟩,
  ⟨some 8, .mov (.t 20), none, []⟩] [10, 18, 19, 20]
def R_coombs_most_elects_6 : AC := .ops false [⟨some 21, .bin .add (.t 14) (.c (.int .i64 1)), none, []⟩,
  ⟨some 14, .mov (.t 21), none, []⟩] [21]
def L_coombs_most_elects_1 : AC := (.seq R_coombs_most_elects_3 (.seq (.cond (.t 15) .skip (.exit 0)) (.seq (.block 1 (.seq R_coombs_most_elects_4 R_coombs_most_elects_5)) R_coombs_most_elects_6)))
def R_coombs_most_elects_7 : AC := .ops false [⟨some 22, .mov (.t 2), none, []⟩,
  ⟨some 23, .mkfn 357 [] [.t 4], none, []⟩,
  ⟨some 24, .call (.fn 115) [.t 22, .t 23], none, []⟩,
  ⟨some 25, .ia 1 (.t 24) (.c (.int .i64 0)), none, []⟩,
  ⟨some 26, .load 1 true (.t 25), none, []⟩,
  ⟨some 11, .mov (.t 26), none, []⟩] [12, 13, 14, 15, 22, 23, 24, 25, 26]
def R_coombs_most_elects_8 : AC := .ops true [⟨some 27, .mov (.t 11), none, []⟩,
  ⟨some 28, .mov (.t 2), none, []⟩,
  ⟨some 29, .len (.t 28), none, [1]⟩,
  ⟨some 30, .bin .eql (.t 29) (.c (.int .i64 1)), none, [2]⟩,
  ⟨some 31, .mov (.t 30), none, [3]⟩,
  ⟨some 32, .load 1 true (.t 4), some (31, false), [4]⟩,
  ⟨some 33, .mov (.t 11), some (31, false), [4]⟩,
  ⟨some 34, .ia 1 (.t 32) (.t 33), some (31, false), [5, 6, 4]⟩,
  ⟨some 35, .load 1 true (.t 34), some (31, false), [7, 4]⟩,
  ⟨some 36, .bin .mul (.c (.int .i64 2)) (.t 35), some (31, false), [8, 4]⟩,
  ⟨some 37, .mov (.t 8), some (31, false), [4]⟩,
  ⟨some 38, .bin .gtr (.t 36) (.t 37), some (31, false), [9, 10, 4]⟩,
  ⟨some 39, .pick (.t 31) (.c (.bool true)) (.t 38), none, [4, 11]⟩,
  ⟨some 6, .mov (.t 27), none, [0, 4, 0]⟩,
  ⟨some 7, .mov (.t 39), none, [12, 13, 0, 1, 2, 3, 4, 5, 6, 7, 8, 9, 10, 11, 12, 13]⟩] [2, 4, 8, 11, 27, 28, 29, 30, 31, 32, 33, 34, 35, 36, 37, 38, 39]
def F_coombs_most_elects : AFunc := { ntmps := 40, nargs := 3, kills := [[0, 1, 3, 6, 7], [], [], [], [15, 16, 17], [10, 18, 19, 20], [21], [12, 13, 14, 15, 22, 23, 24, 25, 26], [2, 4, 8, 11, 27, 28, 29, 30, 31, 32, 33, 34, 35, 36, 37, 38, 39]], results := [.t 6, .t 7], body := (.seq R_coombs_most_elects_0 (.seq R_coombs_most_elects_1 (.seq (.seq R_coombs_most_elects_2 (.block 0 (.loop L_coombs_most_elects_1))) (.seq R_coombs_most_elects_7 (.seq R_coombs_most_elects_8 .ret))))) }
abbrev k_coombs_most_elects : Nat := 355
-- (suffrage/coombs.most).out
def R_coombs_most_out_0 : AC := .ops false [⟨some 2, .box (.t 0), none, []⟩,
  ⟨some 4, .mov (.c (.lst 0 [] (some 0))), none, []⟩] [0, 4]
def R_coombs_most_out_1 : AC := .ops false [⟨some 6, .fa (.t 2) 0, none, []⟩,
  ⟨some 7, .load 3 false (.t 6), none, []⟩,
  ⟨some 8, .mov (.t 1), none, []⟩,
  ⟨some 9, .call (.fn 358) [.t 7, .t 8], none, []⟩,
  ⟨some 5, .alloc [.lst 0 [] (some 0)], none, []⟩,
  ⟨none, .store 1 (.t 5) (.t 9), none, []⟩] [2, 6, 7, 8, 9]
def R_coombs_most_out_2 : AC := .ops false [⟨some 10, .mov (.t 1), none, []⟩,
  ⟨some 11, .mkfn 359 [] [.t 5], none, []⟩,
  ⟨some 12, .call (.fn 115) [.t 10, .t 11], none, []⟩,
  ⟨some 4, .mov (.t 12), none, []⟩] [1, 5, 10, 11, 12]
def F_coombs_most_out : AFunc := { ntmps := 13, nargs := 2, kills := [[0, 4], [2, 6, 7, 8, 9], [1, 5, 10, 11, 12]], results := [.t 4], body := (.seq R_coombs_most_out_0 (.seq R_coombs_most_out_1 (.seq R_coombs_most_out_2 .ret))) }
abbrev k_coombs_most_out : Nat := 356
-- (suffrage/coombs.most).elects$1
def R_coombs_most_elects_1_0 : AC := .ops false [⟨some 3, .mov (.c (.int .i64 0)), none, []⟩] [3]
def R_coombs_most_elects_1_1 : AC := .ops false [⟨some 4, .load 1 true (.t 1), none, []⟩,
  ⟨some 5, .mov (.t 0), none, []⟩,
  ⟨some 6, .ia 1 (.t 4) (.t 5), none, []⟩,
  ⟨some 7, .load 1 true (.t 6), none, []⟩,
  ⟨some 3, .mov (.t 7), none, []⟩] [0, 1, 4, 5, 6, 7]
def F_coombs_most_elects_1 : AFunc := { ntmps := 8, nargs := 2, kills := [[3], [0, 1, 4, 5, 6, 7]], results := [.t 3], body := (.seq R_coombs_most_elects_1_0 (.seq R_coombs_most_elects_1_1 .ret)) }
abbrev k_coombs_most_elects_1 : Nat := 357
-- suffrage/coombs.against
def R_coombs_against_0 : AC := .ops false [⟨some 2, .box (.t 0), none, []⟩,
  ⟨some 4, .mov (.c (.lst 0 [] (some 0))), none, []⟩] [0, 4]
def R_coombs_against_1 : AC := .ops false [⟨some 13, .fa (.t 2) 0, none, []⟩,
  ⟨some 14, .load 1 true (.t 13), none, []⟩,
  ⟨some 15, .mkslice 1 8 [.int .i64 0] (.t 14) (.t 14), none, []⟩,
  ⟨some 5, .mov (.t 15), none, []⟩] [13, 14, 15]
def R_coombs_against_2 : AC := .ops false [⟨some 16, .fa (.t 2) 2, none, []⟩,
  ⟨some 17, .load 1 true (.t 16), none, []⟩,
  ⟨some 18, .len (.t 17), none, []⟩,
  ⟨some 19, .mov (.c (.int .i64 0)), none, []⟩] [2, 16]
def R_coombs_against_3 : AC := .ops false [⟨some 20, .bin .lss (.t 19) (.t 18), none, []⟩] []
def R_coombs_against_4 : AC := .ops false [⟨some 21, .ia 2 (.t 17) (.t 19), none, []⟩,
  ⟨some 22, .load 2 false (.t 21), none, []⟩,
  ⟨some 7, .alloc [.lst 0 [] (some 0), .int .i64 0], none, []⟩,
  ⟨none, .store 2 (.t 7) (.t 22), none, []⟩] [20, 21, 22]
def R_coombs_against_5 : AC := .ops false [⟨some 8, .mov (.c (.int .i64 (-1))), none, []⟩,
  ⟨some 9, .mov (.c (.bool false)), none, []⟩] []
def R_coombs_against_6 : AC := .ops false [⟨some 23, .mov (.t 1), none, []⟩,
  ⟨some 24, .len (.t 23), none, []⟩,
  ⟨some 25, .mov (.c (.int .i64 0)), none, []⟩] []
def R_coombs_against_7 : AC := .ops false [⟨some 26, .bin .lss (.t 25) (.t 24), none, []⟩] []
def R_coombs_against_8 : AC := .ops false [⟨some 27, .ia 1 (.t 23) (.t 25), none, []⟩,
  ⟨some 28, .load 1 true (.t 27), none, []⟩,
  ⟨some 11, .mov (.t 28), none, []⟩] [26, 27, 28]
def R_coombs_against_9 : AC := .ops false [⟨some 29, .fa (.t 7) 0, none, []⟩,
  ⟨some 30, .load 1 true (.t 29), none, []⟩,
  ⟨some 31, .mov (.t 11), none, []⟩,
  ⟨some 32, .call (.fn 264) [.t 30, .t 31], none, []⟩,
  ⟨some 12, .mov (.t 32), none, []⟩] [29, 30, 31, 32]
def R_coombs_against_10 : AC := .ops false [⟨some 33, .mov (.t 8), none, []⟩,
  ⟨some 34, .mov (.t 12), none, []⟩,
  ⟨some 35, .max [.t 33, .t 34], none, []⟩,
  ⟨some 8, .mov (.t 35), none, []⟩] [33, 34, 35]
def R_coombs_against_11 : AC := .ops false [⟨some 36, .mov (.t 12), none, []⟩,
  ⟨some 37, .bin .lss (.t 36) (.c (.int .i64 0)), none, []⟩] [12, 36]
def R_coombs_against_12 : AC := .ops true [⟨some 38, .mov (.t 5), none, []⟩,
  ⟨some 39, .mov (.t 11), none, []⟩,
  ⟨some 40, .ia 1 (.t 38) (.t 39), none, [0, 1]⟩,
  ⟨some 41, .load 1 true (.t 40), none, [2]⟩,
  ⟨some 42, .fa (.t 7) 1, none, []⟩,
  ⟨some 43, .load 1 true (.t 42), none, [4]⟩,
  ⟨some 44, .bin .add (.t 41) (.t 43), none, [3, 5]⟩,
  ⟨some 45, .ia 1 (.t 38) (.t 39), none, [0, 1, 0, 1, 2, 3, 4, 5, 6]⟩,
  ⟨none, .store 1 (.t 45) (.t 44), none, [7, 6, 0, 1, 2, 3, 4, 5, 6]⟩] [9, 11, 37, 38, 39, 40, 41, 42, 43, 44, 45]
def R_coombs_against_13 : AC := .ops false [⟨some 9, .mov (.c (.bool true)), none, []⟩] []
def R_coombs_against_14 : AC := .ops false [⟨some 46, .bin .add (.t 25) (.c (.int .i64 1)), none, []⟩,
  ⟨some 25, .mov (.t 46), none, []⟩] [11, 37, 46]
def L_coombs_against_1 : AC := (.seq R_coombs_against_7 (.seq (.cond (.t 26) .skip (.exit 2)) (.seq (.block 3 (.seq R_coombs_against_8 (.seq R_coombs_against_9 (.seq R_coombs_against_10 (.seq R_coombs_against_11 (.cond (.t 37) (.seq R_coombs_against_12 R_coombs_against_13) .skip)))))) R_coombs_against_14)))
def R_coombs_against_15 : AC := .ops false [⟨some 47, .mov (.t 9), none, []⟩,
  ⟨some 48, .un .not (.t 47), none, []⟩,
  ⟨some 49, .mov (.t 48), none, []⟩,
  ⟨some 50, .mov (.t 8), some (49, true), []⟩,
  ⟨some 51, .bin .geq (.t 50) (.c (.int .i64 0)), some (49, true), []⟩,
  ⟨some 52, .pick (.t 49) (.t 51) (.c (.bool false)), none, []⟩] [9, 23, 24, 25, 26, 47, 48, 49, 50, 51]
def R_coombs_against_16 : AC := .ops true [⟨some 53, .mov (.t 5), none, []⟩,
  ⟨some 54, .fa (.t 7) 0, none, []⟩,
  ⟨some 55, .load 1 true (.t 54), none, [1]⟩,
  ⟨some 56, .mov (.t 8), none, []⟩,
  ⟨some 57, .ia 1 (.t 55) (.t 56), none, [2, 3]⟩,
  ⟨some 58, .load 1 true (.t 57), none, [4]⟩,
  ⟨some 59, .ia 1 (.t 53) (.t 58), none, [0, 5]⟩,
  ⟨some 60, .load 1 true (.t 59), none, [6]⟩,
  ⟨some 61, .fa (.t 7) 1, none, []⟩,
  ⟨some 62, .load 1 true (.t 61), none, [8]⟩,
  ⟨some 63, .bin .add (.t 60) (.t 62), none, [7, 9]⟩,
  ⟨some 64, .ia 1 (.t 53) (.t 58), none, [0, 5, 0, 1, 2, 3, 4, 5, 6, 7, 8, 9, 10]⟩,
  ⟨none, .store 1 (.t 64) (.t 63), none, [11, 10, 0, 1, 2, 3, 4, 5, 6, 7, 8, 9, 10]⟩] [7, 8, 52, 53, 54, 55, 56, 57, 58, 59, 60, 61, 62, 63, 64]
def R_coombs_against_17 : AC := .ops false [⟨some 65, .bin .add (.t 19) (.c (.int .i64 1)), none, []⟩,
  ⟨some 19, .mov (.t 65), none, []⟩] [7, 8, 52, 65]
def L_coombs_against_2 : AC := (.seq R_coombs_against_3 (.seq (.cond (.t 20) .skip (.exit 0)) (.seq (.block 1 (.seq R_coombs_against_4 (.seq R_coombs_against_5 (.seq (.seq R_coombs_against_6 (.block 2 (.loop L_coombs_against_1))) (.seq R_coombs_against_15 (.cond (.t 52) R_coombs_against_16 .skip)))))) R_coombs_against_17)))
def R_coombs_against_18 : AC := .ops false [⟨some 66, .mov (.t 5), none, []⟩,
  ⟨some 4, .mov (.t 66), none, []⟩] [1, 5, 17, 18, 19, 20, 66]
def F_coombs_against : AFunc := { ntmps := 67, nargs := 2, kills := [[0, 4], [13, 14, 15], [2, 16], [], [20, 21, 22], [], [], [], [26, 27, 28], [29, 30, 31, 32], [33, 34, 35], [12, 36], [9, 11, 37, 38, 39, 40, 41, 42, 43, 44, 45], [], [11, 37, 46], [9, 23, 24, 25, 26, 47, 48, 49, 50, 51], [7, 8, 52, 53, 54, 55, 56, 57, 58, 59, 60, 61, 62, 63, 64], [7, 8, 52, 65], [1, 5, 17, 18, 19, 20, 66]], results := [.t 4], body := (.seq R_coombs_against_0 (.seq R_coombs_against_1 (.seq (.seq R_coombs_against_2 (.block 0 (.loop L_coombs_against_2))) (.seq R_coombs_against_18 .ret)))) }
abbrev k_coombs_against : Nat := 358
-- (suffrage/coombs.most).out$1
def R_coombs_most_out_1_0 : AC := .ops false [⟨some 3, .mov (.c (.int .i64 0)), none, []⟩] [3]
def R_coombs_most_out_1_1 : AC := .ops false [⟨some 4, .load 1 true (.t 1), none, []⟩,
  ⟨some 5, .mov (.t 0), none, []⟩,
  ⟨some 6, .ia 1 (.t 4) (.t 5), none, []⟩,
  ⟨some 7, .load 1 true (.t 6), none, []⟩,
  ⟨some 3, .mov (.t 7), none, []⟩] [0, 1, 4, 5, 6, 7]
def F_coombs_most_out_1 : AFunc := { ntmps := 8, nargs := 2, kills := [[3], [0, 1, 4, 5, 6, 7]], results := [.t 3], body := (.seq R_coombs_most_out_1_0 (.seq R_coombs_most_out_1_1 .ret)) }
abbrev k_coombs_most_out_1 : Nat := 359
-- (suffrage/gregory.hopeful).has
def R_gregory_hopeful_has_0 : AC := .ops false [⟨some 3, .box (.t 0), none, []⟩,
  ⟨some 6, .mov (.c (.int .i64 0)), none, []⟩] [0, 2, 3, 6]
def R_gregory_hopeful_has_1 : AC := .ops false [⟨some 7, .mov (.t 1), none, []⟩,
  ⟨some 6, .mov (.t 7), none, []⟩] [1, 7]
def F_gregory_hopeful_has : AFunc := { ntmps := 8, nargs := 3, kills := [[0, 2, 3, 6], [1, 7]], results := [.t 6], body := (.seq R_gregory_hopeful_has_0 (.seq R_gregory_hopeful_has_1 .ret)) }
abbrev k_gregory_hopeful_has : Nat := 360
-- (suffrage/gregory.hopeful).in
def R_gregory_hopeful_in_0 : AC := .ops false [⟨some 1, .box (.t 0), none, []⟩,
  ⟨some 2, .mov (.c (.bool false)), none, []⟩] [0, 1, 2]
def R_gregory_hopeful_in_1 : AC := .ops false [⟨some 2, .mov (.c (.bool true)), none, []⟩] []
def F_gregory_hopeful_in : AFunc := { ntmps := 3, nargs := 1, kills := [[0, 1, 2], []], results := [.t 2], body := (.seq R_gregory_hopeful_in_0 (.seq R_gregory_hopeful_in_1 .ret)) }
abbrev k_gregory_hopeful_in : Nat := 361
-- (suffrage/gregory.done).has
def R_gregory_done_has_0 : AC := .ops false [⟨some 3, .box (.t 0), none, []⟩,
  ⟨some 6, .mov (.c (.int .i64 0)), none, []⟩] [0, 1, 6]
def R_gregory_done_has_1 : AC := .ops false [⟨some 7, .fa (.t 3) 0, none, []⟩,
  ⟨some 8, .load 1 true (.t 7), none, []⟩] [3, 7]
def R_gregory_done_has_2 : AC := .ops false [⟨some 9, .mov (.t 2), none, []⟩,
  ⟨some 6, .mov (.t 9), none, []⟩] [2, 8, 9]
def R_gregory_done_has_3 : AC := .ops false [⟨some 6, .mov (.c (.int .i64 0)), none, []⟩] [2, 8]
def F_gregory_done_has : AFunc := { ntmps := 10, nargs := 3, kills := [[0, 1, 6], [3, 7], [2, 8, 9], [2, 8]], results := [.t 6], body := (.seq R_gregory_done_has_0 (.seq (.seq R_gregory_done_has_1 (.cond (.t 8) (.seq R_gregory_done_has_2 .ret) .skip)) (.seq R_gregory_done_has_3 .ret))) }
abbrev k_gregory_done_has : Nat := 362
-- (suffrage/gregory.done).in
def R_gregory_done_in_0 : AC := .ops false [⟨some 1, .box (.t 0), none, []⟩,
  ⟨some 2, .mov (.c (.bool false)), none, []⟩] [0, 1, 2]
def R_gregory_done_in_1 : AC := .ops false [⟨some 2, .mov (.c (.bool false)), none, []⟩] []
def F_gregory_done_in : AFunc := { ntmps := 3, nargs := 1, kills := [[0, 1, 2], []], results := [.t 2], body := (.seq R_gregory_done_in_0 (.seq R_gregory_done_in_1 .ret)) }
abbrev k_gregory_done_in : Nat := 363
end Go.Proofs.YtgajemhdpjomnaaGreat
