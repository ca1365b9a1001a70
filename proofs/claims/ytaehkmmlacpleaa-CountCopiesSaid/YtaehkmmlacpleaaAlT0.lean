/- The functions in the abstract language, worked out by Lean. -/
import Derived.Test.YtaehkmmlacpleaaAlX
set_option linter.unusedVariables false
set_option maxHeartbeats 1000000
set_option maxRecDepth 100000
namespace Go.Proofs.Ytaehkmmlacpleaa
-- suffrage/suffragelaw22.CountCopies
def R_suffragelaw22_CountCopies_0 : AC := .ops false [⟨some 4, .box (.t 0), none, []⟩,
  ⟨some 5, .box (.t 1), none, []⟩,
  ⟨some 8, .mov (.c (.bool false)), none, []⟩] [0, 1, 8]
def R_suffragelaw22_CountCopies_1 : AC := .ops false [⟨some 20, .load 3 false (.t 4), none, []⟩,
  ⟨some 21, .call (.fn 4) [.t 20], none, []⟩,
  ⟨some 22, .mov (.t 21), none, []⟩,
  ⟨some 23, .load 3 false (.t 5), some (22, false), []⟩,
  ⟨some 24, .call (.fn 4) [.t 23], some (22, false), []⟩,
  ⟨some 25, .pick (.t 22) (.c (.bool true)) (.t 24), none, []⟩,
  ⟨some 26, .mov (.t 25), none, []⟩,
  ⟨some 27, .mov (.t 3), some (26, false), []⟩,
  ⟨some 28, .len (.t 27), some (26, false), []⟩,
  ⟨some 29, .bin .gtr (.t 28) (.c (.int .i64 60)), some (26, false), []⟩,
  ⟨some 30, .pick (.t 26) (.c (.bool true)) (.t 29), none, []⟩] [20, 21, 22, 23, 24, 25, 26, 27, 28, 29]
def R_suffragelaw22_CountCopies_2 : AC := .ops false [⟨some 8, .mov (.c (.bool true)), none, []⟩] [2, 3, 4, 5, 30]
def R_suffragelaw22_CountCopies_3 : AC := .ops false [⟨some 31, .load 3 false (.t 4), none, []⟩,
  ⟨some 32, .call (.fn 5) [.t 31], none, []⟩,
  ⟨some 9, .alloc [.lst 0 [] (some 0), .lst 0 [] (some 0), .lst 0 [] (some 0)], none, []⟩,
  ⟨none, .store 3 (.t 9) (.t 32), none, []⟩] [30, 31, 32]
def R_suffragelaw22_CountCopies_4 : AC := .ops false [⟨some 34, .load 3 false (.t 9), none, []⟩,
  ⟨some 35, .mov (.t 2), none, []⟩,
  ⟨some 36, .call (.fn 6) [.t 34, .t 35], none, []⟩,
  ⟨some 33, .mov (.t 36), none, []⟩,
  ⟨some 37, .ext (.t 33) 0, none, []⟩,
  ⟨some 38, .ext (.t 33) 1, none, []⟩,
  ⟨some 10, .mov (.t 37), none, []⟩,
  ⟨some 11, .mov (.t 38), none, []⟩] [33, 34, 35, 36, 37, 38]
def R_suffragelaw22_CountCopies_5 : AC := .ops false [⟨some 40, .load 3 false (.t 4), none, []⟩,
  ⟨some 41, .mov (.t 2), none, []⟩,
  ⟨some 42, .call (.fn 7) [.t 40, .t 41], none, []⟩,
  ⟨some 39, .mov (.t 42), none, []⟩,
  ⟨some 43, .ext (.t 39) 0, none, []⟩,
  ⟨some 44, .ext (.t 39) 1, none, []⟩,
  ⟨some 12, .mov (.t 43), none, []⟩,
  ⟨some 13, .mov (.t 44), none, []⟩] [2, 39, 40, 41, 42, 43, 44]
def R_suffragelaw22_CountCopies_6 : AC := .ops false [⟨some 46, .load 3 false (.t 9), none, []⟩,
  ⟨some 47, .mov (.t 3), none, []⟩,
  ⟨some 48, .call (.fn 8) [.t 46, .t 47], none, []⟩,
  ⟨some 45, .mov (.t 48), none, []⟩,
  ⟨some 49, .ext (.t 45) 0, none, []⟩,
  ⟨some 50, .ext (.t 45) 1, none, []⟩,
  ⟨some 14, .alloc [.lst 0 [] (some 0), .lst 0 [] (some 0), .lst 0 [] (some 0)], none, []⟩,
  ⟨none, .store 3 (.t 14) (.t 49), none, []⟩,
  ⟨some 15, .mov (.t 50), none, []⟩] [45, 46, 47, 48, 49, 50]
def R_suffragelaw22_CountCopies_7 : AC := .ops false [⟨some 52, .load 3 false (.t 4), none, []⟩,
  ⟨some 53, .mov (.t 3), none, []⟩,
  ⟨some 54, .call (.fn 9) [.t 52, .t 53], none, []⟩,
  ⟨some 51, .mov (.t 54), none, []⟩,
  ⟨some 55, .ext (.t 51) 0, none, []⟩,
  ⟨some 56, .ext (.t 51) 1, none, []⟩,
  ⟨some 16, .alloc [.lst 0 [] (some 0), .lst 0 [] (some 0), .lst 0 [] (some 0)], none, []⟩,
  ⟨none, .store 3 (.t 16) (.t 55), none, []⟩,
  ⟨some 17, .mov (.t 56), none, []⟩] [3, 51, 52, 53, 54, 55, 56]
def R_suffragelaw22_CountCopies_8 : AC := .ops true [⟨some 57, .load 3 false (.t 9), none, []⟩,
  ⟨some 58, .load 3 false (.t 4), none, []⟩,
  ⟨some 59, .call (.fn 10) [.t 57, .t 58], none, [0, 1]⟩,
  ⟨some 60, .mov (.t 59), none, [2, 2]⟩,
  ⟨some 61, .mov (.t 10), some (60, true), [3]⟩,
  ⟨some 62, .mov (.t 12), some (60, true), [3]⟩,
  ⟨some 63, .call (.fn 11) [.t 61, .t 62], some (60, true), [4, 5, 3, 3]⟩,
  ⟨some 64, .pick (.t 60) (.t 63) (.c (.bool false)), none, [3, 6]⟩,
  ⟨some 65, .mov (.t 64), none, [7, 6]⟩,
  ⟨some 66, .mov (.t 11), some (65, true), [8]⟩,
  ⟨some 67, .mov (.t 13), some (65, true), [8]⟩,
  ⟨some 68, .bin .eql (.t 66) (.t 67), some (65, true), [9, 10, 8]⟩,
  ⟨some 69, .pick (.t 65) (.t 68) (.c (.bool false)), none, [8, 11]⟩,
  ⟨some 70, .mov (.t 69), none, [12, 8]⟩,
  ⟨some 71, .load 3 false (.t 14), some (70, true), [13]⟩,
  ⟨some 72, .load 3 false (.t 16), some (70, true), [13]⟩,
  ⟨some 73, .call (.fn 10) [.t 71, .t 72], some (70, true), [14, 15, 13, 13]⟩,
  ⟨some 74, .pick (.t 70) (.t 73) (.c (.bool false)), none, [13, 16]⟩,
  ⟨some 75, .mov (.t 74), none, [17, 16]⟩,
  ⟨some 76, .mov (.t 15), some (75, true), [18]⟩,
  ⟨some 77, .mov (.t 17), some (75, true), [18]⟩,
  ⟨some 78, .bin .eql (.t 76) (.t 77), some (75, true), [19, 20, 18]⟩,
  ⟨some 79, .pick (.t 75) (.t 78) (.c (.bool false)), none, [18, 21]⟩,
  ⟨some 80, .mov (.t 79), none, [22, 18]⟩,
  ⟨some 81, .load 3 false (.t 9), some (80, true), [23]⟩,
  ⟨some 82, .load 3 false (.t 5), some (80, true), [23]⟩,
  ⟨some 83, .call (.fn 12) [.t 81, .t 82], some (80, true), [24, 25, 23, 23]⟩,
  ⟨some 84, .load 3 false (.t 4), some (80, true), [23]⟩,
  ⟨some 85, .load 3 false (.t 5), some (80, true), [23]⟩,
  ⟨some 86, .call (.fn 10) [.t 84, .t 85], some (80, true), [27, 28, 26, 23]⟩,
  ⟨some 87, .beq false (.t 83) (.t 86), some (80, true), [26, 29, 23]⟩,
  ⟨some 88, .pick (.t 80) (.t 87) (.c (.bool false)), none, [23, 30]⟩,
  ⟨some 89, .mov (.t 88), none, [31, 29]⟩,
  ⟨some 90, .load 3 false (.t 9), some (89, true), [32]⟩,
  ⟨some 91, .load 3 false (.t 4), some (89, true), [32]⟩,
  ⟨some 92, .call (.fn 12) [.t 90, .t 91], some (89, true), [33, 34, 32, 32]⟩,
  ⟨some 93, .pick (.t 89) (.t 92) (.c (.bool false)), none, [32, 35]⟩,
  ⟨some 18, .mov (.t 93), none, [36, 35, 0, 1, 2, 3, 4, 5, 6, 7, 8, 9, 10, 11, 12, 13, 14, 15, 16, 17, 18, 19, 20, 21, 22, 23, 24, 25, 26, 27, 28, 29, 30, 31, 32, 33, 34, 35, 36]⟩] [5, 10, 11, 12, 13, 15, 16, 17, 57, 58, 59, 60, 61, 62, 63, 64, 65, 66, 67, 68, 69, 70, 71, 72, 73, 74, 75, 76, 77, 78, 79, 80, 81, 82, 83, 84, 85, 86, 87, 88, 89, 90, 91, 92, 93]
def R_suffragelaw22_CountCopies_9 : AC := .ops false [⟨some 94, .load 3 false (.t 14), none, []⟩,
  ⟨some 95, .call (.fn 13) [.t 94], none, []⟩] [14, 94, 95]
def R_suffragelaw22_CountCopies_10 : AC := .ops false [⟨some 96, .mov (.t 18), none, []⟩,
  ⟨some 97, .mov (.t 96), none, []⟩,
  ⟨some 98, .load 3 false (.t 9), some (97, true), []⟩,
  ⟨some 99, .load 3 false (.t 4), some (97, true), []⟩,
  ⟨some 100, .call (.fn 10) [.t 98, .t 99], some (97, true), []⟩,
  ⟨some 101, .pick (.t 97) (.t 100) (.c (.bool false)), none, []⟩,
  ⟨some 18, .mov (.t 101), none, []⟩] [96, 97, 98, 99, 100, 101]
def R_suffragelaw22_CountCopies_11 : AC := .ops false [⟨some 102, .load 3 false (.t 9), none, []⟩,
  ⟨some 103, .call (.fn 5) [.t 102], none, []⟩,
  ⟨some 19, .alloc [.lst 0 [] (some 0), .lst 0 [] (some 0), .lst 0 [] (some 0)], none, []⟩,
  ⟨none, .store 3 (.t 19) (.t 103), none, []⟩] [102, 103]
def R_suffragelaw22_CountCopies_12 : AC := .ops false [⟨some 104, .load 3 false (.t 19), none, []⟩,
  ⟨some 105, .call (.fn 13) [.t 104], none, []⟩] [19, 104, 105]
def R_suffragelaw22_CountCopies_13 : AC := .ops false [⟨some 106, .mov (.t 18), none, []⟩,
  ⟨some 107, .mov (.t 106), none, []⟩,
  ⟨some 108, .load 3 false (.t 9), some (107, true), []⟩,
  ⟨some 109, .load 3 false (.t 4), some (107, true), []⟩,
  ⟨some 110, .call (.fn 10) [.t 108, .t 109], some (107, true), []⟩,
  ⟨some 111, .pick (.t 107) (.t 110) (.c (.bool false)), none, []⟩,
  ⟨some 8, .mov (.t 111), none, []⟩] [4, 9, 18, 106, 107, 108, 109, 110, 111]
def F_suffragelaw22_CountCopies : AFunc := { ntmps := 112, nargs := 4, kills := [[0, 1, 8], [20, 21, 22, 23, 24, 25, 26, 27, 28, 29], [2, 3, 4, 5, 30], [30, 31, 32], [33, 34, 35, 36, 37, 38], [2, 39, 40, 41, 42, 43, 44], [45, 46, 47, 48, 49, 50], [3, 51, 52, 53, 54, 55, 56], [5, 10, 11, 12, 13, 15, 16, 17, 57, 58, 59, 60, 61, 62, 63, 64, 65, 66, 67, 68, 69, 70, 71, 72, 73, 74, 75, 76, 77, 78, 79, 80, 81, 82, 83, 84, 85, 86, 87, 88, 89, 90, 91, 92, 93], [14, 94, 95], [96, 97, 98, 99, 100, 101], [102, 103], [19, 104, 105], [4, 9, 18, 106, 107, 108, 109, 110, 111]], results := [.t 8], body := (.seq R_suffragelaw22_CountCopies_0 (.seq (.seq R_suffragelaw22_CountCopies_1 (.cond (.t 30) (.seq R_suffragelaw22_CountCopies_2 .ret) .skip)) (.seq R_suffragelaw22_CountCopies_3 (.seq R_suffragelaw22_CountCopies_4 (.seq R_suffragelaw22_CountCopies_5 (.seq R_suffragelaw22_CountCopies_6 (.seq R_suffragelaw22_CountCopies_7 (.seq R_suffragelaw22_CountCopies_8 (.seq R_suffragelaw22_CountCopies_9 (.seq R_suffragelaw22_CountCopies_10 (.seq R_suffragelaw22_CountCopies_11 (.seq R_suffragelaw22_CountCopies_12 (.seq R_suffragelaw22_CountCopies_13 .ret))))))))))))) }
noncomputable def T3 : { F : AFunc // CT.func [[0, 1, 8], [20, 21, 22, 23, 24, 25, 26, 27, 28, 29], [2, 3, 4, 5, 30], [30, 31, 32], [33, 34, 35, 36, 37, 38], [2, 39, 40, 41, 42, 43, 44], [45, 46, 47, 48, 49, 50], [3, 51, 52, 53, 54, 55, 56], [5, 10, 11, 12, 13, 15, 16, 17, 57, 58, 59, 60, 61, 62, 63, 64, 65, 66, 67, 68, 69, 70, 71, 72, 73, 74, 75, 76, 77, 78, 79, 80, 81, 82, 83, 84, 85, 86, 87, 88, 89, 90, 91, 92, 93], [14, 94, 95], [96, 97, 98, 99, 100, 101], [102, 103], [19, 104, 105], [4, 9, 18, 106, 107, 108, 109, 110, 111]] Try.f3 = some F } := ⟨F_suffragelaw22_CountCopies, by kernel_rfl⟩
theorem c3 : Cert 3 T3.1 := cert_of T3.2 Try.func3
-- suffrage/suffrageref22.Great
def R_suffrageref22_Great_0 : AC := .ops false [⟨some 1, .box (.t 0), none, []⟩,
  ⟨some 2, .mov (.c (.bool false)), none, []⟩] [0, 2]
def R_suffrageref22_Great_1 : AC := .ops false [⟨some 7, .fa (.t 1) 0, none, []⟩,
  ⟨some 8, .load 1 true (.t 7), none, []⟩,
  ⟨some 9, .len (.t 8), none, []⟩,
  ⟨some 10, .fa (.t 1) 1, none, []⟩,
  ⟨some 11, .load 1 true (.t 10), none, []⟩,
  ⟨some 12, .len (.t 11), none, []⟩,
  ⟨some 13, .bin .add (.t 9) (.t 12), none, []⟩,
  ⟨some 14, .fa (.t 1) 2, none, []⟩,
  ⟨some 15, .load 1 true (.t 14), none, []⟩,
  ⟨some 16, .len (.t 15), none, []⟩,
  ⟨some 17, .bin .add (.t 13) (.t 16), none, []⟩,
  ⟨some 3, .mov (.t 17), none, []⟩] [7, 8, 9, 10, 11, 12, 13, 14, 15, 16, 17]
def R_suffrageref22_Great_2 : AC := .ops false [⟨some 18, .mov (.t 3), none, []⟩,
  ⟨some 19, .bin .gtr (.t 18) (.c (.int .i64 200)), none, []⟩] [18]
def R_suffrageref22_Great_3 : AC := .ops false [⟨some 2, .mov (.c (.bool true)), none, []⟩] [1, 3, 19]
def R_suffrageref22_Great_4 : AC := .ops false [⟨some 4, .mov (.c (.int .i64 0)), none, []⟩] [19]
def R_suffrageref22_Great_5 : AC := .ops false [⟨some 20, .mov (.t 4), none, []⟩,
  ⟨some 21, .fa (.t 1) 1, none, []⟩,
  ⟨some 22, .load 1 true (.t 21), none, []⟩,
  ⟨some 23, .len (.t 22), none, []⟩,
  ⟨some 24, .bin .lss (.t 20) (.t 23), none, []⟩] [20, 21, 22, 23]
def R_suffrageref22_Great_7 : AC := .ops true [⟨some 27, .mov (.t 3), none, []⟩,
  ⟨some 28, .fa (.t 1) 1, none, []⟩,
  ⟨some 29, .load 1 true (.t 28), none, [1]⟩,
  ⟨some 30, .mov (.t 4), none, []⟩,
  ⟨some 31, .ia 6 (.t 29) (.t 30), none, [2, 3]⟩,
  ⟨some 32, .fa (.t 31) 0, none, [4]⟩,
  ⟨some 33, .load 1 true (.t 32), none, [5]⟩,
  ⟨some 34, .len (.t 33), none, [6]⟩,
  ⟨some 35, .min [.t 34, .c (.int .i64 300)], none, [7]⟩,
  ⟨some 36, .bin .add (.t 27) (.t 35), none, [0, 8]⟩,
  ⟨some 37, .fa (.t 1) 1, none, []⟩,
  ⟨some 38, .load 1 true (.t 37), none, [10]⟩,
  ⟨some 39, .mov (.t 4), none, []⟩,
  ⟨some 40, .ia 6 (.t 38) (.t 39), none, [11, 12]⟩,
  ⟨some 41, .fa (.t 40) 4, none, [13]⟩,
  ⟨some 42, .load 1 true (.t 41), none, [14]⟩,
  ⟨some 43, .len (.t 42), none, [15]⟩,
  ⟨some 44, .min [.t 43, .c (.int .i64 300)], none, [16]⟩,
  ⟨some 45, .bin .add (.t 36) (.t 44), none, [9, 17]⟩,
  ⟨some 46, .fa (.t 1) 1, none, []⟩,
  ⟨some 47, .load 1 true (.t 46), none, [19]⟩,
  ⟨some 48, .mov (.t 4), none, []⟩,
  ⟨some 49, .ia 6 (.t 47) (.t 48), none, [20, 21]⟩,
  ⟨some 50, .fa (.t 49) 5, none, [22]⟩,
  ⟨some 51, .load 1 true (.t 50), none, [23]⟩,
  ⟨some 52, .len (.t 51), none, [24]⟩,
  ⟨some 53, .min [.t 52, .c (.int .i64 300)], none, [25]⟩,
  ⟨some 54, .bin .add (.t 45) (.t 53), none, [18, 26]⟩,
  ⟨some 55, .fa (.t 1) 1, none, []⟩,
  ⟨some 56, .load 1 true (.t 55), none, [28]⟩,
  ⟨some 57, .mov (.t 4), none, []⟩,
  ⟨some 58, .ia 6 (.t 56) (.t 57), none, [29, 30]⟩,
  ⟨some 59, .fa (.t 58) 1, none, [31]⟩,
  ⟨some 60, .fa (.t 59) 1, none, [32]⟩,
  ⟨some 61, .load 1 true (.t 60), none, [33]⟩,
  ⟨some 62, .len (.t 61), none, [34]⟩,
  ⟨some 63, .min [.t 62, .c (.int .i64 300)], none, [35]⟩,
  ⟨some 64, .bin .add (.t 54) (.t 63), none, [27, 36]⟩,
  ⟨some 65, .fa (.t 1) 1, none, []⟩,
  ⟨some 66, .load 1 true (.t 65), none, [38]⟩,
  ⟨some 67, .mov (.t 4), none, []⟩,
  ⟨some 68, .ia 6 (.t 66) (.t 67), none, [39, 40]⟩,
  ⟨some 69, .fa (.t 68) 1, none, [41]⟩,
  ⟨some 70, .fa (.t 69) 2, none, [42]⟩,
  ⟨some 71, .load 1 true (.t 70), none, [43]⟩,
  ⟨some 72, .len (.t 71), none, [44]⟩,
  ⟨some 73, .min [.t 72, .c (.int .i64 300)], none, [45]⟩,
  ⟨some 74, .bin .add (.t 64) (.t 73), none, [37, 46]⟩,
  ⟨some 3, .mov (.t 74), none, [47, 0, 1, 2, 3, 4, 5, 6, 7, 8, 9, 10, 11, 12, 13, 14, 15, 16, 17, 18, 19, 20, 21, 22, 23, 24, 25, 26, 27, 28, 29, 30, 31, 32, 33, 34, 35, 36, 37, 38, 39, 40, 41, 42, 43, 44, 45, 46, 47]⟩] [24, 27, 28, 29, 30, 31, 32, 33, 34, 35, 36, 37, 38, 39, 40, 41, 42, 43, 44, 45, 46, 47, 48, 49, 50, 51, 52, 53, 54, 55, 56, 57, 58, 59, 60, 61, 62, 63, 64, 65, 66, 67, 68, 69, 70, 71, 72, 73, 74]
def R_suffrageref22_Great_8 : AC := .ops false [⟨some 5, .mov (.c (.int .i64 0)), none, []⟩] []
def R_suffrageref22_Great_9 : AC := .ops false [⟨some 75, .mov (.t 5), none, []⟩,
  ⟨some 76, .fa (.t 1) 1, none, []⟩,
  ⟨some 77, .load 1 true (.t 76), none, []⟩,
  ⟨some 78, .mov (.t 4), none, []⟩,
  ⟨some 79, .ia 6 (.t 77) (.t 78), none, []⟩,
  ⟨some 80, .fa (.t 79) 0, none, []⟩,
  ⟨some 81, .load 1 true (.t 80), none, []⟩,
  ⟨some 82, .len (.t 81), none, []⟩,
  ⟨some 83, .bin .lss (.t 75) (.t 82), none, []⟩,
  ⟨some 84, .mov (.t 83), none, []⟩,
  ⟨some 85, .mov (.t 5), some (84, true), []⟩,
  ⟨some 86, .bin .lss (.t 85) (.c (.int .i64 300)), some (84, true), []⟩,
  ⟨some 87, .pick (.t 84) (.t 86) (.c (.bool false)), none, []⟩] [75, 76, 77, 78, 79, 80, 81, 82, 83, 84, 85, 86]
def R_suffrageref22_Great_11 : AC := .ops true [⟨some 90, .mov (.t 3), none, []⟩,
  ⟨some 91, .fa (.t 1) 1, none, []⟩,
  ⟨some 92, .load 1 true (.t 91), none, [1]⟩,
  ⟨some 93, .mov (.t 4), none, []⟩,
  ⟨some 94, .ia 6 (.t 92) (.t 93), none, [2, 3]⟩,
  ⟨some 95, .fa (.t 94) 0, none, [4]⟩,
  ⟨some 96, .load 1 true (.t 95), none, [5]⟩,
  ⟨some 97, .mov (.t 5), none, []⟩,
  ⟨some 98, .ia 3 (.t 96) (.t 97), none, [6, 7]⟩,
  ⟨some 99, .fa (.t 98) 1, none, [8]⟩,
  ⟨some 100, .load 1 true (.t 99), none, [9]⟩,
  ⟨some 101, .len (.t 100), none, [10]⟩,
  ⟨some 102, .min [.t 101, .c (.int .i64 3000)], none, [11]⟩,
  ⟨some 103, .bin .add (.t 90) (.t 102), none, [0, 12]⟩,
  ⟨some 104, .fa (.t 1) 1, none, []⟩,
  ⟨some 105, .load 1 true (.t 104), none, [14]⟩,
  ⟨some 106, .mov (.t 4), none, []⟩,
  ⟨some 107, .ia 6 (.t 105) (.t 106), none, [15, 16]⟩,
  ⟨some 108, .fa (.t 107) 0, none, [17]⟩,
  ⟨some 109, .load 1 true (.t 108), none, [18]⟩,
  ⟨some 110, .mov (.t 5), none, []⟩,
  ⟨some 111, .ia 3 (.t 109) (.t 110), none, [19, 20]⟩,
  ⟨some 112, .fa (.t 111) 2, none, [21]⟩,
  ⟨some 113, .load 1 true (.t 112), none, [22]⟩,
  ⟨some 114, .len (.t 113), none, [23]⟩,
  ⟨some 115, .min [.t 114, .c (.int .i64 3000)], none, [24]⟩,
  ⟨some 116, .bin .add (.t 103) (.t 115), none, [13, 25]⟩,
  ⟨some 3, .mov (.t 116), none, [26, 0, 1, 2, 3, 4, 5, 6, 7, 8, 9, 10, 11, 12, 13, 14, 15, 16, 17, 18, 19, 20, 21, 22, 23, 24, 25, 26]⟩] [87, 90, 91, 92, 93, 94, 95, 96, 97, 98, 99, 100, 101, 102, 103, 104, 105, 106, 107, 108, 109, 110, 111, 112, 113, 114, 115, 116]
def R_suffrageref22_Great_10 : AC := .ops false [⟨some 88, .mov (.t 5), none, []⟩,
  ⟨some 89, .bin .add (.t 88) (.c (.int .i64 1)), none, []⟩,
  ⟨some 5, .mov (.t 89), none, []⟩] [88, 89]
def L_suffrageref22_Great_1 : AC := (.seq (.seq R_suffrageref22_Great_9 (.cond (.t 87) .skip (.exit 2))) (.seq (.block 3 R_suffrageref22_Great_11) R_suffrageref22_Great_10))
def R_suffrageref22_Great_6 : AC := .ops false [⟨some 25, .mov (.t 4), none, []⟩,
  ⟨some 26, .bin .add (.t 25) (.c (.int .i64 1)), none, []⟩,
  ⟨some 4, .mov (.t 26), none, []⟩] [5, 25, 26, 87]
def L_suffrageref22_Great_2 : AC := (.seq (.seq R_suffrageref22_Great_5 (.cond (.t 24) .skip (.exit 0))) (.seq (.block 1 (.seq R_suffrageref22_Great_7 (.seq R_suffrageref22_Great_8 (.block 2 (.loop L_suffrageref22_Great_1))))) R_suffrageref22_Great_6))
def R_suffrageref22_Great_12 : AC := .ops false [⟨some 6, .mov (.c (.int .i64 0)), none, []⟩] [4, 24]
def R_suffrageref22_Great_13 : AC := .ops false [⟨some 117, .mov (.t 6), none, []⟩,
  ⟨some 118, .fa (.t 1) 2, none, []⟩,
  ⟨some 119, .load 1 true (.t 118), none, []⟩,
  ⟨some 120, .len (.t 119), none, []⟩,
  ⟨some 121, .bin .lss (.t 117) (.t 120), none, []⟩] [117, 118, 119, 120]
def R_suffrageref22_Great_15 : AC := .ops false [⟨some 124, .mov (.t 3), none, []⟩,
  ⟨some 125, .fa (.t 1) 2, none, []⟩,
  ⟨some 126, .load 1 true (.t 125), none, []⟩,
  ⟨some 127, .mov (.t 6), none, []⟩,
  ⟨some 128, .ia 2 (.t 126) (.t 127), none, []⟩,
  ⟨some 129, .fa (.t 128) 0, none, []⟩,
  ⟨some 130, .load 1 true (.t 129), none, []⟩,
  ⟨some 131, .len (.t 130), none, []⟩,
  ⟨some 132, .min [.t 131, .c (.int .i64 300)], none, []⟩,
  ⟨some 133, .bin .add (.t 124) (.t 132), none, []⟩,
  ⟨some 3, .mov (.t 133), none, []⟩] [121, 124, 125, 126, 127, 128, 129, 130, 131, 132, 133]
def R_suffrageref22_Great_14 : AC := .ops false [⟨some 122, .mov (.t 6), none, []⟩,
  ⟨some 123, .bin .add (.t 122) (.c (.int .i64 1)), none, []⟩,
  ⟨some 6, .mov (.t 123), none, []⟩] [122, 123]
def L_suffrageref22_Great_3 : AC := (.seq (.seq R_suffrageref22_Great_13 (.cond (.t 121) .skip (.exit 4))) (.seq (.block 5 R_suffrageref22_Great_15) R_suffrageref22_Great_14))
def R_suffrageref22_Great_16 : AC := .ops false [⟨some 134, .mov (.t 3), none, []⟩,
  ⟨some 135, .bin .gtr (.t 134) (.c (.int .i64 3000)), none, []⟩,
  ⟨some 2, .mov (.t 135), none, []⟩] [1, 3, 6, 121, 134, 135]
def F_suffrageref22_Great : AFunc := { ntmps := 136, nargs := 1, kills := [[0, 2], [7, 8, 9, 10, 11, 12, 13, 14, 15, 16, 17], [18], [1, 3, 19], [19], [20, 21, 22, 23], [5, 25, 26, 87], [24, 27, 28, 29, 30, 31, 32, 33, 34, 35, 36, 37, 38, 39, 40, 41, 42, 43, 44, 45, 46, 47, 48, 49, 50, 51, 52, 53, 54, 55, 56, 57, 58, 59, 60, 61, 62, 63, 64, 65, 66, 67, 68, 69, 70, 71, 72, 73, 74], [], [75, 76, 77, 78, 79, 80, 81, 82, 83, 84, 85, 86], [88, 89], [87, 90, 91, 92, 93, 94, 95, 96, 97, 98, 99, 100, 101, 102, 103, 104, 105, 106, 107, 108, 109, 110, 111, 112, 113, 114, 115, 116], [4, 24], [117, 118, 119, 120], [122, 123], [121, 124, 125, 126, 127, 128, 129, 130, 131, 132, 133], [1, 3, 6, 121, 134, 135]], results := [.t 2], body := (.seq R_suffrageref22_Great_0 (.seq R_suffrageref22_Great_1 (.seq (.seq R_suffrageref22_Great_2 (.cond (.t 19) (.seq R_suffrageref22_Great_3 .ret) .skip)) (.seq (.seq R_suffrageref22_Great_4 (.block 0 (.loop L_suffrageref22_Great_2))) (.seq (.seq R_suffrageref22_Great_12 (.block 4 (.loop L_suffrageref22_Great_3))) (.seq R_suffrageref22_Great_16 .ret)))))) }
noncomputable def T4 : { F : AFunc // CT.func [[0, 2], [7, 8, 9, 10, 11, 12, 13, 14, 15, 16, 17], [18], [1, 3, 19], [19], [20, 21, 22, 23], [5, 25, 26, 87], [24, 27, 28, 29, 30, 31, 32, 33, 34, 35, 36, 37, 38, 39, 40, 41, 42, 43, 44, 45, 46, 47, 48, 49, 50, 51, 52, 53, 54, 55, 56, 57, 58, 59, 60, 61, 62, 63, 64, 65, 66, 67, 68, 69, 70, 71, 72, 73, 74], [], [75, 76, 77, 78, 79, 80, 81, 82, 83, 84, 85, 86], [88, 89], [87, 90, 91, 92, 93, 94, 95, 96, 97, 98, 99, 100, 101, 102, 103, 104, 105, 106, 107, 108, 109, 110, 111, 112, 113, 114, 115, 116], [4, 24], [117, 118, 119, 120], [122, 123], [121, 124, 125, 126, 127, 128, 129, 130, 131, 132, 133], [1, 3, 6, 121, 134, 135]] Try.f4 = some F } := ⟨F_suffrageref22_Great, by kernel_rfl⟩
theorem c4 : Cert 4 T4.1 := cert_of T4.2 Try.func4
-- suffrage/count.Twin
noncomputable def T5 : { F : AFunc // CT.func [[0], [6, 7, 8, 9, 10, 11, 12, 13, 14, 15, 16, 17], [18], [], [22, 23, 24, 25], [3, 4, 26, 27, 28, 29, 30, 31, 32, 33, 34, 35, 36, 37, 38, 39, 40, 41, 42], [43], [19, 20, 21, 22, 44, 45], [], [48, 49], [5, 50, 51, 52, 53, 54, 55, 56, 57, 58, 59, 60, 61], [62], [1, 46, 47, 48, 63]] Try.f5 = some F } := by
  refine ⟨?F, ?h⟩
  case h =>
    conv => lhs; cbv
theorem c5 : Cert 5 T5.1 := cert_of T5.2 Try.func5
-- suffrage/count.Seats
noncomputable def T6 : { F : AFunc // CT.func [[0, 4, 5], [9, 10, 11, 12, 13], [1, 2, 14], [14, 15, 16], [2, 17], [], [21, 22, 23], [24, 25, 26, 27, 28, 29], [1, 6, 8, 18, 19, 20, 30], [8, 30, 31, 32, 33, 34, 35, 36], [37], [1, 6, 18, 19, 20, 21, 38]] Try.f6 = some F } := by
  refine ⟨?F, ?h⟩
  case h =>
    conv => lhs; cbv
theorem c6 : Cert 6 T6.1 := cert_of T6.2 Try.func6
-- suffrage/suffrageref22.Seats
noncomputable def T7 : { F : AFunc // CT.func [[0, 4, 5], [8, 9, 10, 11, 12], [1, 2, 13], [13, 14, 15], [], [16, 17, 18, 19], [21, 22], [20, 23, 24, 25, 26, 27, 28, 29, 30, 31, 32, 33, 34, 35, 36], [1, 2, 6, 7, 37], [37, 38, 39, 40, 41, 42, 43, 44, 45, 46, 47], [1, 2, 6, 7, 20, 48]] Try.f7 = some F } := by
  refine ⟨?F, ?h⟩
  case h =>
    conv => lhs; cbv
theorem c7 : Cert 7 T7.1 := cert_of T7.2 Try.func7
-- suffrage/count.Rename
def R_count_Rename_0 : AC := .ops false [⟨some 2, .box (.t 0), none, []⟩,
  ⟨some 3, .box (.t 1), none, []⟩,
  ⟨some 4, .alloc [.lst 0 [] (some 0), .lst 0 [] (some 0), .lst 0 [] (some 0)], none, []⟩,
  ⟨some 5, .mov (.c (.int .i64 0)), none, []⟩] [0, 1, 5]
def R_count_Rename_1 : AC := .ops false [⟨some 14, .load 1 true (.t 3), none, []⟩,
  ⟨some 15, .call (.fn 19) [.t 14], none, []⟩,
  ⟨some 16, .un .not (.t 15), none, []⟩,
  ⟨some 17, .mov (.t 16), none, []⟩,
  ⟨some 18, .load 3 false (.t 2), some (17, false), []⟩,
  ⟨some 19, .load 1 true (.t 3), some (17, false), []⟩,
  ⟨some 20, .len (.t 19), some (17, false), []⟩,
  ⟨some 21, .call (.fn 20) [.t 18, .t 20], some (17, false), []⟩,
  ⟨some 22, .un .not (.t 21), some (17, false), []⟩,
  ⟨some 23, .pick (.t 17) (.c (.bool true)) (.t 22), none, []⟩] [14, 15, 16, 17, 18, 19, 20, 21, 22]
def R_count_Rename_2 : AC := .ops false [⟨some 24, .build [.lst 0 [] (some 0), .lst 0 [] (some 0), .lst 0 [] (some 0)] [], none, []⟩,
  ⟨none, .store 3 (.t 4) (.t 24), none, []⟩,
  ⟨some 5, .mov (.c (.int .i64 2)), none, []⟩] [2, 3, 23, 24]
def R_count_Rename_3 : AC := .ops false [⟨some 25, .load 3 false (.t 2), none, []⟩,
  ⟨some 26, .call (.fn 5) [.t 25], none, []⟩,
  ⟨some 6, .alloc [.lst 0 [] (some 0), .lst 0 [] (some 0), .lst 0 [] (some 0)], none, []⟩,
  ⟨none, .store 3 (.t 6) (.t 26), none, []⟩] [23, 25, 26]
def R_count_Rename_4 : AC := .ops false [⟨some 27, .mkfn 21 [] [.t 3], none, []⟩,
  ⟨some 7, .mov (.t 27), none, []⟩] [27]
def R_count_Rename_5 : AC := .ops false [⟨some 28, .mov (.t 7), none, []⟩,
  ⟨some 29, .fa (.t 6) 0, none, []⟩,
  ⟨some 30, .load 1 true (.t 29), none, []⟩,
  ⟨some 31, .call (.dyn (.t 28)) [.t 30], none, []⟩] [28, 29, 30, 31]
def R_count_Rename_6 : AC := .ops false [⟨some 32, .fa (.t 6) 1, none, []⟩,
  ⟨some 33, .load 1 true (.t 32), none, []⟩,
  ⟨some 34, .len (.t 33), none, []⟩,
  ⟨some 35, .mov (.c (.int .i64 0)), none, []⟩] [32, 33]
def R_count_Rename_7 : AC := .ops false [⟨some 36, .bin .lss (.t 35) (.t 34), none, []⟩] []
def R_count_Rename_8 : AC := .ops false [⟨some 37, .mov (.t 35), none, []⟩,
  ⟨some 8, .mov (.t 37), none, []⟩] [36, 37]
def R_count_Rename_9 : AC := .ops false [⟨some 38, .fa (.t 6) 1, none, []⟩,
  ⟨some 39, .load 1 true (.t 38), none, []⟩,
  ⟨some 40, .mov (.t 8), none, []⟩,
  ⟨some 41, .ia 6 (.t 39) (.t 40), none, []⟩,
  ⟨some 9, .mov (.t 41), none, []⟩] [38, 39, 40, 41]
def R_count_Rename_10 : AC := .ops false [⟨some 42, .mov (.t 7), none, []⟩,
  ⟨some 43, .mov (.t 9), none, []⟩,
  ⟨some 44, .nilchk (.t 43), none, []⟩,
  ⟨some 45, .fa (.t 44) 4, none, []⟩,
  ⟨some 46, .load 1 true (.t 45), none, []⟩,
  ⟨some 47, .call (.dyn (.t 42)) [.t 46], none, []⟩] [42, 43, 44, 45, 46, 47]
def R_count_Rename_11 : AC := .ops false [⟨some 48, .mov (.t 7), none, []⟩,
  ⟨some 49, .mov (.t 9), none, []⟩,
  ⟨some 50, .nilchk (.t 49), none, []⟩,
  ⟨some 51, .fa (.t 50) 5, none, []⟩,
  ⟨some 52, .load 1 true (.t 51), none, []⟩,
  ⟨some 53, .call (.dyn (.t 48)) [.t 52], none, []⟩] [48, 49, 50, 51, 52, 53]
def R_count_Rename_12 : AC := .ops false [⟨some 54, .fa (.t 2) 1, none, []⟩,
  ⟨some 55, .load 1 true (.t 54), none, []⟩,
  ⟨some 56, .mov (.t 8), none, []⟩,
  ⟨some 57, .ia 6 (.t 55) (.t 56), none, []⟩,
  ⟨some 58, .fa (.t 57) 0, none, []⟩,
  ⟨some 59, .load 1 true (.t 58), none, []⟩,
  ⟨some 60, .call (.fn 17) [.t 59], none, []⟩,
  ⟨some 61, .len (.t 60), none, []⟩,
  ⟨some 62, .mov (.c (.int .i64 0)), none, []⟩] [8, 54, 55, 56, 57, 58, 59]
def R_count_Rename_13 : AC := .ops false [⟨some 63, .bin .lss (.t 62) (.t 61), none, []⟩] []
def R_count_Rename_14 : AC := .ops false [⟨some 64, .mov (.t 62), none, []⟩,
  ⟨some 65, .ia 3 (.t 60) (.t 62), none, []⟩,
  ⟨some 66, .load 3 false (.t 65), none, []⟩,
  ⟨some 11, .alloc [.bool false, .lst 0 [] (some 0), .lst 0 [] (some 0)], none, []⟩,
  ⟨some 10, .mov (.t 64), none, []⟩,
  ⟨none, .store 3 (.t 11) (.t 66), none, []⟩] [63, 64, 65, 66]
def R_count_Rename_15 : AC := .ops true [⟨some 67, .mov (.t 9), none, []⟩,
  ⟨some 68, .nilchk (.t 67), none, [0]⟩,
  ⟨some 69, .fa (.t 68) 0, none, [1]⟩,
  ⟨some 70, .load 1 true (.t 69), none, [2]⟩,
  ⟨some 71, .load 1 true (.t 3), none, []⟩,
  ⟨some 72, .mov (.t 10), none, []⟩,
  ⟨some 73, .ia 1 (.t 71) (.t 72), none, [4, 5]⟩,
  ⟨some 74, .load 1 true (.t 73), none, [6]⟩,
  ⟨some 75, .load 3 false (.t 11), none, []⟩,
  ⟨some 76, .ia 3 (.t 70) (.t 74), none, [3, 7, 0, 1, 2, 3, 4, 5, 6, 7, 8]⟩,
  ⟨none, .store 3 (.t 76) (.t 75), none, [9, 8, 0, 1, 2, 3, 4, 5, 6, 7, 8]⟩] [10, 11, 67, 68, 69, 70, 71, 72, 73, 74, 75, 76]
def R_count_Rename_16 : AC := .ops false [⟨some 77, .bin .add (.t 62) (.c (.int .i64 1)), none, []⟩,
  ⟨some 62, .mov (.t 77), none, []⟩] [77]
def L_count_Rename_1 : AC := (.seq R_count_Rename_13 (.seq (.cond (.t 63) .skip (.exit 2)) (.seq (.block 3 (.seq R_count_Rename_14 R_count_Rename_15)) R_count_Rename_16)))
def R_count_Rename_17 : AC := .ops false [⟨some 78, .bin .add (.t 35) (.c (.int .i64 1)), none, []⟩,
  ⟨some 35, .mov (.t 78), none, []⟩] [9, 60, 61, 62, 63, 78]
def L_count_Rename_2 : AC := (.seq R_count_Rename_7 (.seq (.cond (.t 36) .skip (.exit 0)) (.seq (.block 1 (.seq R_count_Rename_8 (.seq R_count_Rename_9 (.seq R_count_Rename_10 (.seq R_count_Rename_11 (.seq R_count_Rename_12 (.block 2 (.loop L_count_Rename_1)))))))) R_count_Rename_17)))
def R_count_Rename_18 : AC := .ops false [⟨some 79, .fa (.t 6) 2, none, []⟩,
  ⟨some 80, .load 1 true (.t 79), none, []⟩,
  ⟨some 81, .len (.t 80), none, []⟩,
  ⟨some 82, .mov (.c (.int .i64 0)), none, []⟩] [2, 34, 35, 36, 79, 80]
def R_count_Rename_19 : AC := .ops false [⟨some 83, .bin .lss (.t 82) (.t 81), none, []⟩] []
def R_count_Rename_20 : AC := .ops false [⟨some 84, .mov (.t 82), none, []⟩,
  ⟨some 12, .mov (.t 84), none, []⟩] [83, 84]
def R_count_Rename_21 : AC := .ops false [⟨some 85, .fa (.t 6) 2, none, []⟩,
  ⟨some 86, .load 1 true (.t 85), none, []⟩,
  ⟨some 87, .mov (.t 12), none, []⟩,
  ⟨some 88, .ia 2 (.t 86) (.t 87), none, []⟩,
  ⟨some 13, .mov (.t 88), none, []⟩] [12, 85, 86, 87, 88]
def R_count_Rename_22 : AC := .ops false [⟨some 89, .mov (.t 7), none, []⟩,
  ⟨some 90, .mov (.t 13), none, []⟩,
  ⟨some 91, .nilchk (.t 90), none, []⟩,
  ⟨some 92, .fa (.t 91) 0, none, []⟩,
  ⟨some 93, .load 1 true (.t 92), none, []⟩,
  ⟨some 94, .call (.dyn (.t 89)) [.t 93], none, []⟩] [89, 90, 91, 92, 93, 94]
def R_count_Rename_23 : AC := .ops false [⟨some 95, .mov (.t 13), none, []⟩,
  ⟨some 96, .nilchk (.t 95), none, []⟩,
  ⟨some 97, .fa (.t 96) 0, none, []⟩,
  ⟨some 98, .load 1 true (.t 97), none, []⟩,
  ⟨some 99, .call (.fn 22) [.t 98], none, []⟩] [95, 96, 97, 98, 99]
def R_count_Rename_24 : AC := .ops true [⟨some 100, .mov (.t 13), none, []⟩,
  ⟨some 101, .load 1 true (.t 3), none, []⟩,
  ⟨some 102, .mov (.t 13), none, []⟩,
  ⟨some 103, .nilchk (.t 102), none, [2]⟩,
  ⟨some 104, .fa (.t 103) 1, none, [3]⟩,
  ⟨some 105, .load 1 true (.t 104), none, [4]⟩,
  ⟨some 106, .ia 1 (.t 101) (.t 105), none, [1, 5]⟩,
  ⟨some 107, .load 1 true (.t 106), none, [6]⟩,
  ⟨some 108, .nilchk (.t 100), none, [0, 0, 1, 2, 3, 4, 5, 6, 7]⟩,
  ⟨some 109, .fa (.t 108) 1, none, [8, 0, 1, 2, 3, 4, 5, 6, 7]⟩,
  ⟨none, .store 1 (.t 109) (.t 107), none, [9, 7, 0, 1, 2, 3, 4, 5, 6, 7]⟩] [13, 100, 101, 102, 103, 104, 105, 106, 107, 108, 109]
def R_count_Rename_25 : AC := .ops false [⟨some 110, .bin .add (.t 82) (.c (.int .i64 1)), none, []⟩,
  ⟨some 82, .mov (.t 110), none, []⟩] [110]
def L_count_Rename_3 : AC := (.seq R_count_Rename_19 (.seq (.cond (.t 83) .skip (.exit 4)) (.seq (.block 5 (.seq R_count_Rename_20 (.seq R_count_Rename_21 (.seq R_count_Rename_22 (.seq R_count_Rename_23 R_count_Rename_24))))) R_count_Rename_25)))
def R_count_Rename_26 : AC := .ops false [⟨some 111, .load 3 false (.t 6), none, []⟩,
  ⟨none, .store 3 (.t 4) (.t 111), none, []⟩,
  ⟨some 5, .mov (.c (.int .i64 0)), none, []⟩] [3, 6, 7, 81, 82, 83, 111]
def F_count_Rename : AFunc := { ntmps := 112, nargs := 2, kills := [[0, 1, 5], [14, 15, 16, 17, 18, 19, 20, 21, 22], [2, 3, 23, 24], [23, 25, 26], [27], [28, 29, 30, 31], [32, 33], [], [36, 37], [38, 39, 40, 41], [42, 43, 44, 45, 46, 47], [48, 49, 50, 51, 52, 53], [8, 54, 55, 56, 57, 58, 59], [], [63, 64, 65, 66], [10, 11, 67, 68, 69, 70, 71, 72, 73, 74, 75, 76], [77], [9, 60, 61, 62, 63, 78], [2, 34, 35, 36, 79, 80], [], [83, 84], [12, 85, 86, 87, 88], [89, 90, 91, 92, 93, 94], [95, 96, 97, 98, 99], [13, 100, 101, 102, 103, 104, 105, 106, 107, 108, 109], [110], [3, 6, 7, 81, 82, 83, 111]], results := [.cell 4 3 false, .t 5], body := (.seq R_count_Rename_0 (.seq (.seq R_count_Rename_1 (.cond (.t 23) (.seq R_count_Rename_2 .ret) .skip)) (.seq R_count_Rename_3 (.seq R_count_Rename_4 (.seq R_count_Rename_5 (.seq (.seq R_count_Rename_6 (.block 0 (.loop L_count_Rename_2))) (.seq (.seq R_count_Rename_18 (.block 4 (.loop L_count_Rename_3))) (.seq R_count_Rename_26 .ret)))))))) }
noncomputable def T8 : { F : AFunc // CT.func [[0, 1, 5], [14, 15, 16, 17, 18, 19, 20, 21, 22], [2, 3, 23, 24], [23, 25, 26], [27], [28, 29, 30, 31], [32, 33], [], [36, 37], [38, 39, 40, 41], [42, 43, 44, 45, 46, 47], [48, 49, 50, 51, 52, 53], [8, 54, 55, 56, 57, 58, 59], [], [63, 64, 65, 66], [10, 11, 67, 68, 69, 70, 71, 72, 73, 74, 75, 76], [77], [9, 60, 61, 62, 63, 78], [2, 34, 35, 36, 79, 80], [], [83, 84], [12, 85, 86, 87, 88], [89, 90, 91, 92, 93, 94], [95, 96, 97, 98, 99], [13, 100, 101, 102, 103, 104, 105, 106, 107, 108, 109], [110], [3, 6, 7, 81, 82, 83, 111]] Try.f8 = some F } := ⟨F_count_Rename, by kernel_rfl⟩
theorem c8 : Cert 8 T8.1 := cert_of T8.2 Try.func8
-- suffrage/suffrageref22.Rename
def R_suffrageref22_Rename_0 : AC := .ops false [⟨some 2, .box (.t 0), none, []⟩,
  ⟨some 4, .alloc [.lst 0 [] (some 0), .lst 0 [] (some 0), .lst 0 [] (some 0)], none, []⟩,
  ⟨some 5, .mov (.c (.int .i64 0)), none, []⟩] [0, 5]
def R_suffrageref22_Rename_1 : AC := .ops false [⟨some 11, .mov (.t 1), none, []⟩,
  ⟨some 12, .call (.fn 23) [.t 11], none, []⟩,
  ⟨some 13, .un .not (.t 12), none, []⟩,
  ⟨some 14, .mov (.t 13), none, []⟩,
  ⟨some 15, .load 3 false (.t 2), some (14, false), []⟩,
  ⟨some 16, .mov (.t 1), some (14, false), []⟩,
  ⟨some 17, .len (.t 16), some (14, false), []⟩,
  ⟨some 18, .call (.fn 24) [.t 15, .t 17], some (14, false), []⟩,
  ⟨some 19, .un .not (.t 18), some (14, false), []⟩,
  ⟨some 20, .pick (.t 14) (.c (.bool true)) (.t 19), none, []⟩] [11, 12, 13, 14, 15, 16, 17, 18, 19]
def R_suffrageref22_Rename_2 : AC := .ops false [⟨some 21, .build [.lst 0 [] (some 0), .lst 0 [] (some 0), .lst 0 [] (some 0)] [], none, []⟩,
  ⟨none, .store 3 (.t 4) (.t 21), none, []⟩,
  ⟨some 5, .mov (.c (.int .i64 2)), none, []⟩] [1, 2, 20, 21]
def R_suffrageref22_Rename_3 : AC := .ops false [⟨some 22, .fa (.t 2) 0, none, []⟩,
  ⟨some 23, .load 1 true (.t 22), none, []⟩,
  ⟨some 24, .mov (.t 1), none, []⟩,
  ⟨some 25, .call (.fn 25) [.t 23, .t 24], none, []⟩,
  ⟨some 26, .build [.lst 0 [] (some 0), .lst 0 [] (some 0), .lst 0 [] (some 0)] [(0, 1, .t 25)], none, []⟩,
  ⟨some 6, .alloc [.lst 0 [] (some 0), .lst 0 [] (some 0), .lst 0 [] (some 0)], none, []⟩,
  ⟨none, .store 3 (.t 6) (.t 26), none, []⟩] [20, 22, 23, 24, 25, 26]
def R_suffrageref22_Rename_4 : AC := .ops false [⟨some 7, .mov (.c (.int .i64 0)), none, []⟩] []
def R_suffrageref22_Rename_5 : AC := .ops false [⟨some 27, .mov (.t 7), none, []⟩,
  ⟨some 28, .fa (.t 2) 1, none, []⟩,
  ⟨some 29, .load 1 true (.t 28), none, []⟩,
  ⟨some 30, .len (.t 29), none, []⟩,
  ⟨some 31, .bin .lss (.t 27) (.t 30), none, []⟩] [27, 28, 29, 30]
def R_suffrageref22_Rename_7 : AC := .ops true [⟨some 34, .mov (.t 1), none, []⟩,
  ⟨some 35, .len (.t 34), none, [0]⟩,
  ⟨some 36, .mkslice 3 56 [.bool false, .lst 0 [] (some 0), .lst 0 [] (some 0)] (.t 35) (.t 35), none, [1, 1]⟩,
  ⟨some 37, .fa (.t 2) 1, none, []⟩,
  ⟨some 38, .load 1 true (.t 37), none, [3]⟩,
  ⟨some 39, .mov (.t 7), none, []⟩,
  ⟨some 40, .ia 6 (.t 38) (.t 39), none, [4, 5]⟩,
  ⟨some 41, .fa (.t 40) 1, none, [6]⟩,
  ⟨some 42, .load 3 false (.t 41), none, [7]⟩,
  ⟨some 43, .fa (.t 2) 1, none, []⟩,
  ⟨some 44, .load 1 true (.t 43), none, [9]⟩,
  ⟨some 45, .mov (.t 7), none, []⟩,
  ⟨some 46, .ia 6 (.t 44) (.t 45), none, [10, 11]⟩,
  ⟨some 47, .fa (.t 46) 4, none, [12]⟩,
  ⟨some 48, .load 1 true (.t 47), none, [13]⟩,
  ⟨some 49, .mov (.t 1), none, []⟩,
  ⟨some 50, .call (.fn 25) [.t 48, .t 49], none, [14, 15]⟩,
  ⟨some 51, .fa (.t 2) 1, none, []⟩,
  ⟨some 52, .load 1 true (.t 51), none, [17]⟩,
  ⟨some 53, .mov (.t 7), none, []⟩,
  ⟨some 54, .ia 6 (.t 52) (.t 53), none, [18, 19]⟩,
  ⟨some 55, .fa (.t 54) 5, none, [20]⟩,
  ⟨some 56, .load 1 true (.t 55), none, [21]⟩,
  ⟨some 57, .mov (.t 1), none, []⟩,
  ⟨some 58, .call (.fn 25) [.t 56, .t 57], none, [22, 23, 16]⟩,
  ⟨some 59, .build [.lst 0 [] (some 0), .bool false, .lst 0 [] (some 0), .lst 0 [] (some 0), .lst 0 [] (some 0), .lst 0 [] (some 0)] [(0, 1, .t 36), (1, 3, .t 42), (4, 1, .t 50), (5, 1, .t 58)], none, [2, 8, 16, 24]⟩,
  ⟨some 8, .alloc [.lst 0 [] (some 0), .bool false, .lst 0 [] (some 0), .lst 0 [] (some 0), .lst 0 [] (some 0), .lst 0 [] (some 0)], none, []⟩,
  ⟨none, .store 6 (.t 8) (.t 59), none, [26, 25, 24, 0, 1, 2, 3, 4, 5, 6, 7, 8, 9, 10, 11, 12, 13, 14, 15, 16, 17, 18, 19, 20, 21, 22, 23, 24, 25, 26]⟩] [31, 34, 35, 36, 37, 38, 39, 40, 41, 42, 43, 44, 45, 46, 47, 48, 49, 50, 51, 52, 53, 54, 55, 56, 57, 58, 59]
def R_suffrageref22_Rename_8 : AC := .ops false [⟨some 9, .mov (.c (.int .i64 0)), none, []⟩] []
def R_suffrageref22_Rename_9 : AC := .ops false [⟨some 60, .mov (.t 9), none, []⟩,
  ⟨some 61, .mov (.t 1), none, []⟩,
  ⟨some 62, .len (.t 61), none, []⟩,
  ⟨some 63, .bin .lss (.t 60) (.t 62), none, []⟩] [60, 61, 62]
def R_suffrageref22_Rename_11 : AC := .ops true [⟨some 66, .fa (.t 8) 0, none, []⟩,
  ⟨some 67, .load 1 true (.t 66), none, [0]⟩,
  ⟨some 68, .mov (.t 1), none, []⟩,
  ⟨some 69, .mov (.t 9), none, []⟩,
  ⟨some 70, .ia 1 (.t 68) (.t 69), none, [2, 3]⟩,
  ⟨some 71, .load 1 true (.t 70), none, [4]⟩,
  ⟨some 72, .fa (.t 2) 1, none, []⟩,
  ⟨some 73, .load 1 true (.t 72), none, [6]⟩,
  ⟨some 74, .mov (.t 7), none, []⟩,
  ⟨some 75, .ia 6 (.t 73) (.t 74), none, [7, 8]⟩,
  ⟨some 76, .fa (.t 75) 0, none, [9]⟩,
  ⟨some 77, .load 1 true (.t 76), none, [10]⟩,
  ⟨some 78, .mov (.t 9), none, []⟩,
  ⟨some 79, .ia 3 (.t 77) (.t 78), none, [11, 12]⟩,
  ⟨some 80, .load 3 false (.t 79), none, [13]⟩,
  ⟨some 81, .ia 3 (.t 67) (.t 71), none, [1, 5, 0, 1, 2, 3, 4, 5, 6, 7, 8, 9, 10, 11, 12, 13, 14]⟩,
  ⟨none, .store 3 (.t 81) (.t 80), none, [15, 14, 0, 1, 2, 3, 4, 5, 6, 7, 8, 9, 10, 11, 12, 13, 14]⟩] [63, 66, 67, 68, 69, 70, 71, 72, 73, 74, 75, 76, 77, 78, 79, 80, 81]
def R_suffrageref22_Rename_10 : AC := .ops false [⟨some 64, .mov (.t 9), none, []⟩,
  ⟨some 65, .bin .add (.t 64) (.c (.int .i64 1)), none, []⟩,
  ⟨some 9, .mov (.t 65), none, []⟩] [64, 65]
def L_suffrageref22_Rename_1 : AC := (.seq (.seq R_suffrageref22_Rename_9 (.cond (.t 63) .skip (.exit 2))) (.seq (.block 3 R_suffrageref22_Rename_11) R_suffrageref22_Rename_10))
def R_suffrageref22_Rename_12 : AC := .ops false [⟨some 82, .fa (.t 6) 1, none, []⟩,
  ⟨some 83, .load 1 true (.t 82), none, []⟩,
  ⟨some 84, .load 6 false (.t 8), none, []⟩,
  ⟨some 85, .bslice 6 [.lst 0 [] (some 0), .bool false, .lst 0 [] (some 0), .lst 0 [] (some 0), .lst 0 [] (some 0), .lst 0 [] (some 0)] 1 [(0, .t 84)], none, []⟩,
  ⟨some 86, .append 6 128 (.t 83) (.t 85), none, []⟩,
  ⟨some 87, .fa (.t 6) 1, none, []⟩,
  ⟨none, .store 1 (.t 87) (.t 86), none, []⟩] [8, 9, 63, 82, 83, 84, 85, 86, 87]
def R_suffrageref22_Rename_6 : AC := .ops false [⟨some 32, .mov (.t 7), none, []⟩,
  ⟨some 33, .bin .add (.t 32) (.c (.int .i64 1)), none, []⟩,
  ⟨some 7, .mov (.t 33), none, []⟩] [32, 33]
def L_suffrageref22_Rename_2 : AC := (.seq (.seq R_suffrageref22_Rename_5 (.cond (.t 31) .skip (.exit 0))) (.seq (.block 1 (.seq R_suffrageref22_Rename_7 (.seq (.seq R_suffrageref22_Rename_8 (.block 2 (.loop L_suffrageref22_Rename_1))) R_suffrageref22_Rename_12))) R_suffrageref22_Rename_6))
def R_suffrageref22_Rename_13 : AC := .ops false [⟨some 10, .mov (.c (.int .i64 0)), none, []⟩] [7, 31]
def R_suffrageref22_Rename_14 : AC := .ops false [⟨some 88, .mov (.t 10), none, []⟩,
  ⟨some 89, .fa (.t 2) 2, none, []⟩,
  ⟨some 90, .load 1 true (.t 89), none, []⟩,
  ⟨some 91, .len (.t 90), none, []⟩,
  ⟨some 92, .bin .lss (.t 88) (.t 91), none, []⟩] [88, 89, 90, 91]
def R_suffrageref22_Rename_16 : AC := .ops true [⟨some 95, .fa (.t 6) 2, none, []⟩,
  ⟨some 96, .load 1 true (.t 95), none, [0]⟩,
  ⟨some 97, .fa (.t 2) 2, none, []⟩,
  ⟨some 98, .load 1 true (.t 97), none, [2]⟩,
  ⟨some 99, .mov (.t 10), none, []⟩,
  ⟨some 100, .ia 2 (.t 98) (.t 99), none, [3, 4]⟩,
  ⟨some 101, .fa (.t 100) 0, none, [5]⟩,
  ⟨some 102, .load 1 true (.t 101), none, [6]⟩,
  ⟨some 103, .mov (.t 1), none, []⟩,
  ⟨some 104, .call (.fn 25) [.t 102, .t 103], none, [7, 8]⟩,
  ⟨some 105, .call (.fn 26) [.t 104], none, [9, 9]⟩,
  ⟨some 106, .mov (.t 1), none, []⟩,
  ⟨some 107, .fa (.t 2) 2, none, []⟩,
  ⟨some 108, .load 1 true (.t 107), none, [12]⟩,
  ⟨some 109, .mov (.t 10), none, []⟩,
  ⟨some 110, .ia 2 (.t 108) (.t 109), none, [13, 14]⟩,
  ⟨some 111, .fa (.t 110) 1, none, [15]⟩,
  ⟨some 112, .load 1 true (.t 111), none, [16]⟩,
  ⟨some 113, .ia 1 (.t 106) (.t 112), none, [11, 17]⟩,
  ⟨some 114, .load 1 true (.t 113), none, [18]⟩,
  ⟨some 115, .build [.lst 0 [] (some 0), .int .i64 0] [(0, 1, .t 105), (1, 1, .t 114)], none, [10, 19]⟩,
  ⟨some 116, .bslice 2 [.lst 0 [] (some 0), .int .i64 0] 1 [(0, .t 115)], none, [20]⟩,
  ⟨some 117, .append 2 32 (.t 96) (.t 116), none, [1, 21, 10]⟩,
  ⟨some 118, .fa (.t 6) 2, none, [0, 1, 2, 3, 4, 5, 6, 7, 8, 9, 10, 11, 12, 13, 14, 15, 16, 17, 18, 19, 20, 21, 22]⟩,
  ⟨none, .store 1 (.t 118) (.t 117), none, [23, 22, 22, 0, 1, 2, 3, 4, 5, 6, 7, 8, 9, 10, 11, 12, 13, 14, 15, 16, 17, 18, 19, 20, 21, 22]⟩] [92, 95, 96, 97, 98, 99, 100, 101, 102, 103, 104, 105, 106, 107, 108, 109, 110, 111, 112, 113, 114, 115, 116, 117, 118]
def R_suffrageref22_Rename_15 : AC := .ops false [⟨some 93, .mov (.t 10), none, []⟩,
  ⟨some 94, .bin .add (.t 93) (.c (.int .i64 1)), none, []⟩,
  ⟨some 10, .mov (.t 94), none, []⟩] [93, 94]
def L_suffrageref22_Rename_3 : AC := (.seq (.seq R_suffrageref22_Rename_14 (.cond (.t 92) .skip (.exit 4))) (.seq (.block 5 R_suffrageref22_Rename_16) R_suffrageref22_Rename_15))
def R_suffrageref22_Rename_17 : AC := .ops false [⟨some 119, .load 3 false (.t 6), none, []⟩,
  ⟨none, .store 3 (.t 4) (.t 119), none, []⟩,
  ⟨some 5, .mov (.c (.int .i64 0)), none, []⟩] [1, 2, 6, 10, 92, 119]
def F_suffrageref22_Rename : AFunc := { ntmps := 120, nargs := 2, kills := [[0, 5], [11, 12, 13, 14, 15, 16, 17, 18, 19], [1, 2, 20, 21], [20, 22, 23, 24, 25, 26], [], [27, 28, 29, 30], [32, 33], [31, 34, 35, 36, 37, 38, 39, 40, 41, 42, 43, 44, 45, 46, 47, 48, 49, 50, 51, 52, 53, 54, 55, 56, 57, 58, 59], [], [60, 61, 62], [64, 65], [63, 66, 67, 68, 69, 70, 71, 72, 73, 74, 75, 76, 77, 78, 79, 80, 81], [8, 9, 63, 82, 83, 84, 85, 86, 87], [7, 31], [88, 89, 90, 91], [93, 94], [92, 95, 96, 97, 98, 99, 100, 101, 102, 103, 104, 105, 106, 107, 108, 109, 110, 111, 112, 113, 114, 115, 116, 117, 118], [1, 2, 6, 10, 92, 119]], results := [.cell 4 3 false, .t 5], body := (.seq R_suffrageref22_Rename_0 (.seq (.seq R_suffrageref22_Rename_1 (.cond (.t 20) (.seq R_suffrageref22_Rename_2 .ret) .skip)) (.seq R_suffrageref22_Rename_3 (.seq (.seq R_suffrageref22_Rename_4 (.block 0 (.loop L_suffrageref22_Rename_2))) (.seq (.seq R_suffrageref22_Rename_13 (.block 4 (.loop L_suffrageref22_Rename_3))) (.seq R_suffrageref22_Rename_17 .ret)))))) }
noncomputable def T9 : { F : AFunc // CT.func [[0, 5], [11, 12, 13, 14, 15, 16, 17, 18, 19], [1, 2, 20, 21], [20, 22, 23, 24, 25, 26], [], [27, 28, 29, 30], [32, 33], [31, 34, 35, 36, 37, 38, 39, 40, 41, 42, 43, 44, 45, 46, 47, 48, 49, 50, 51, 52, 53, 54, 55, 56, 57, 58, 59], [], [60, 61, 62], [64, 65], [63, 66, 67, 68, 69, 70, 71, 72, 73, 74, 75, 76, 77, 78, 79, 80, 81], [8, 9, 63, 82, 83, 84, 85, 86, 87], [7, 31], [88, 89, 90, 91], [93, 94], [92, 95, 96, 97, 98, 99, 100, 101, 102, 103, 104, 105, 106, 107, 108, 109, 110, 111, 112, 113, 114, 115, 116, 117, 118], [1, 2, 6, 10, 92, 119]] Try.f9 = some F } := ⟨F_suffrageref22_Rename, by kernel_rfl⟩
theorem c9 : Cert 9 T9.1 := cert_of T9.2 Try.func9
-- suffrage/suffrageref11.Same
noncomputable def T10 : { F : AFunc // CT.func [[0, 1, 4], [2, 3, 5, 6, 7, 8, 9, 10, 11, 12, 13, 14, 15, 16, 17, 18, 19, 20, 21, 22, 23]] Try.f10 = some F } := by
  refine ⟨?F, ?h⟩
  case h =>
    conv => lhs; cbv
theorem c10 : Cert 10 T10.1 := cert_of T10.2 Try.func10
-- suffrage/suffrageref08.Ints
noncomputable def T11 : { F : AFunc // CT.func [[4], [6, 7, 8, 9], [0, 1, 10], [10], [11, 12, 13], [15, 16, 25], [14, 17, 18, 19, 20, 21, 22, 23, 24], [0, 1, 5, 25], [0, 1, 5, 14]] Try.f11 = some F } := by
  refine ⟨?F, ?h⟩
  case h =>
    conv => lhs; cbv
theorem c11 : Cert 11 T11.1 := cert_of T11.2 Try.func11
-- suffrage/count.Same
noncomputable def T12 : { F : AFunc // CT.func [[0, 1, 4], [], [], [2, 3, 5, 6, 7, 8, 9, 10, 11, 12, 13, 14, 15, 16, 17, 18, 19, 20, 21, 22, 23, 24, 25, 26, 27]] Try.f12 = some F } := by
  refine ⟨?F, ?h⟩
  case h =>
    conv => lhs; cbv
theorem c12 : Cert 12 T12.1 := cert_of T12.2 Try.func12
-- suffrage/suffragelaw22.spoil
def R_suffragelaw22_spoil_0 : AC := .ops false [⟨some 1, .box (.t 0), none, []⟩] [0]
def R_suffragelaw22_spoil_1 : AC := .ops false [⟨some 2, .mov (.c (.int .i64 0)), none, []⟩] []
def R_suffragelaw22_spoil_2 : AC := .ops false [⟨some 9, .mov (.t 2), none, []⟩,
  ⟨some 10, .fa (.t 1) 0, none, []⟩,
  ⟨some 11, .load 1 true (.t 10), none, []⟩,
  ⟨some 12, .len (.t 11), none, []⟩,
  ⟨some 13, .bin .lss (.t 9) (.t 12), none, []⟩] [9, 10, 11, 12]
def R_suffragelaw22_spoil_4 : AC := .ops false [⟨some 16, .fa (.t 1) 0, none, []⟩,
  ⟨some 17, .load 1 true (.t 16), none, []⟩,
  ⟨some 18, .mov (.t 2), none, []⟩,
  ⟨some 19, .ia 1 (.t 17) (.t 18), none, []⟩,
  ⟨none, .store 1 (.t 19) (.c (.int .i64 (-7))), none, []⟩] [13, 16, 17, 18, 19]
def R_suffragelaw22_spoil_3 : AC := .ops false [⟨some 14, .mov (.t 2), none, []⟩,
  ⟨some 15, .bin .add (.t 14) (.c (.int .i64 1)), none, []⟩,
  ⟨some 2, .mov (.t 15), none, []⟩] [14, 15]
def L_suffragelaw22_spoil_1 : AC := (.seq (.seq R_suffragelaw22_spoil_2 (.cond (.t 13) .skip (.exit 0))) (.seq (.block 1 R_suffragelaw22_spoil_4) R_suffragelaw22_spoil_3))
def R_suffragelaw22_spoil_5 : AC := .ops false [⟨some 3, .mov (.c (.int .i64 0)), none, []⟩] [2, 13]
def R_suffragelaw22_spoil_6 : AC := .ops false [⟨some 20, .mov (.t 3), none, []⟩,
  ⟨some 21, .fa (.t 1) 1, none, []⟩,
  ⟨some 22, .load 1 true (.t 21), none, []⟩,
  ⟨some 23, .len (.t 22), none, []⟩,
  ⟨some 24, .bin .lss (.t 20) (.t 23), none, []⟩] [20, 21, 22, 23]
def R_suffragelaw22_spoil_8 : AC := .ops false [⟨some 4, .mov (.c (.int .i64 0)), none, []⟩] [24]
def R_suffragelaw22_spoil_9 : AC := .ops false [⟨some 27, .mov (.t 4), none, []⟩,
  ⟨some 28, .fa (.t 1) 1, none, []⟩,
  ⟨some 29, .load 1 true (.t 28), none, []⟩,
  ⟨some 30, .mov (.t 3), none, []⟩,
  ⟨some 31, .ia 6 (.t 29) (.t 30), none, []⟩,
  ⟨some 32, .fa (.t 31) 0, none, []⟩,
  ⟨some 33, .load 1 true (.t 32), none, []⟩,
  ⟨some 34, .len (.t 33), none, []⟩,
  ⟨some 35, .bin .lss (.t 27) (.t 34), none, []⟩] [27, 28, 29, 30, 31, 32, 33, 34]
def R_suffragelaw22_spoil_11 : AC := .ops false [⟨some 5, .mov (.c (.int .i64 0)), none, []⟩] [35]
def R_suffragelaw22_spoil_12 : AC := .ops false [⟨some 38, .mov (.t 5), none, []⟩,
  ⟨some 39, .fa (.t 1) 1, none, []⟩,
  ⟨some 40, .load 1 true (.t 39), none, []⟩,
  ⟨some 41, .mov (.t 3), none, []⟩,
  ⟨some 42, .ia 6 (.t 40) (.t 41), none, []⟩,
  ⟨some 43, .fa (.t 42) 0, none, []⟩,
  ⟨some 44, .load 1 true (.t 43), none, []⟩,
  ⟨some 45, .mov (.t 4), none, []⟩,
  ⟨some 46, .ia 3 (.t 44) (.t 45), none, []⟩,
  ⟨some 47, .fa (.t 46) 1, none, []⟩,
  ⟨some 48, .load 1 true (.t 47), none, []⟩,
  ⟨some 49, .len (.t 48), none, []⟩,
  ⟨some 50, .bin .lss (.t 38) (.t 49), none, []⟩] [38, 39, 40, 41, 42, 43, 44, 45, 46, 47, 48, 49]
def R_suffragelaw22_spoil_14 : AC := .ops false [⟨some 53, .fa (.t 1) 1, none, []⟩,
  ⟨some 54, .load 1 true (.t 53), none, []⟩,
  ⟨some 55, .mov (.t 3), none, []⟩,
  ⟨some 56, .ia 6 (.t 54) (.t 55), none, []⟩,
  ⟨some 57, .fa (.t 56) 0, none, []⟩,
  ⟨some 58, .load 1 true (.t 57), none, []⟩,
  ⟨some 59, .mov (.t 4), none, []⟩,
  ⟨some 60, .ia 3 (.t 58) (.t 59), none, []⟩,
  ⟨some 61, .fa (.t 60) 1, none, []⟩,
  ⟨some 62, .load 1 true (.t 61), none, []⟩,
  ⟨some 63, .mov (.t 5), none, []⟩,
  ⟨some 64, .ia 1 (.t 62) (.t 63), none, []⟩,
  ⟨none, .store 1 (.t 64) (.c (.int .u32 7)), none, []⟩] [50, 53, 54, 55, 56, 57, 58, 59, 60, 61, 62, 63, 64]
def R_suffragelaw22_spoil_13 : AC := .ops false [⟨some 51, .mov (.t 5), none, []⟩,
  ⟨some 52, .bin .add (.t 51) (.c (.int .i64 1)), none, []⟩,
  ⟨some 5, .mov (.t 52), none, []⟩] [51, 52]
def L_suffragelaw22_spoil_2 : AC := (.seq (.seq R_suffragelaw22_spoil_12 (.cond (.t 50) .skip (.exit 6))) (.seq (.block 7 R_suffragelaw22_spoil_14) R_suffragelaw22_spoil_13))
def R_suffragelaw22_spoil_15 : AC := .ops false [⟨some 65, .fa (.t 1) 1, none, []⟩,
  ⟨some 66, .load 1 true (.t 65), none, []⟩,
  ⟨some 67, .mov (.t 3), none, []⟩,
  ⟨some 68, .ia 6 (.t 66) (.t 67), none, []⟩,
  ⟨some 69, .fa (.t 68) 0, none, []⟩,
  ⟨some 70, .load 1 true (.t 69), none, []⟩,
  ⟨some 71, .mov (.t 4), none, []⟩,
  ⟨some 72, .build [.bool false, .lst 0 [] (some 0), .lst 0 [] (some 0)] [], none, []⟩,
  ⟨some 73, .ia 3 (.t 70) (.t 71), none, []⟩,
  ⟨none, .store 3 (.t 73) (.t 72), none, []⟩] [5, 50, 65, 66, 67, 68, 69, 70, 71, 72, 73]
def R_suffragelaw22_spoil_10 : AC := .ops false [⟨some 36, .mov (.t 4), none, []⟩,
  ⟨some 37, .bin .add (.t 36) (.c (.int .i64 1)), none, []⟩,
  ⟨some 4, .mov (.t 37), none, []⟩] [36, 37]
def L_suffragelaw22_spoil_3 : AC := (.seq (.seq R_suffragelaw22_spoil_9 (.cond (.t 35) .skip (.exit 4))) (.seq (.block 5 (.seq (.seq R_suffragelaw22_spoil_11 (.block 6 (.loop L_suffragelaw22_spoil_2))) R_suffragelaw22_spoil_15)) R_suffragelaw22_spoil_10))
def R_suffragelaw22_spoil_16 : AC := .ops false [⟨some 6, .mov (.c (.int .i64 0)), none, []⟩] [4, 35]
def R_suffragelaw22_spoil_17 : AC := .ops false [⟨some 74, .mov (.t 6), none, []⟩,
  ⟨some 75, .fa (.t 1) 1, none, []⟩,
  ⟨some 76, .load 1 true (.t 75), none, []⟩,
  ⟨some 77, .mov (.t 3), none, []⟩,
  ⟨some 78, .ia 6 (.t 76) (.t 77), none, []⟩,
  ⟨some 79, .fa (.t 78) 5, none, []⟩,
  ⟨some 80, .load 1 true (.t 79), none, []⟩,
  ⟨some 81, .len (.t 80), none, []⟩,
  ⟨some 82, .bin .lss (.t 74) (.t 81), none, []⟩] [74, 75, 76, 77, 78, 79, 80, 81]
def R_suffragelaw22_spoil_19 : AC := .ops false [⟨some 85, .fa (.t 1) 1, none, []⟩,
  ⟨some 86, .load 1 true (.t 85), none, []⟩,
  ⟨some 87, .mov (.t 3), none, []⟩,
  ⟨some 88, .ia 6 (.t 86) (.t 87), none, []⟩,
  ⟨some 89, .fa (.t 88) 5, none, []⟩,
  ⟨some 90, .load 1 true (.t 89), none, []⟩,
  ⟨some 91, .mov (.t 6), none, []⟩,
  ⟨some 92, .ia 1 (.t 90) (.t 91), none, []⟩,
  ⟨none, .store 1 (.t 92) (.c (.int .i64 (-7))), none, []⟩] [82, 85, 86, 87, 88, 89, 90, 91, 92]
def R_suffragelaw22_spoil_18 : AC := .ops false [⟨some 83, .mov (.t 6), none, []⟩,
  ⟨some 84, .bin .add (.t 83) (.c (.int .i64 1)), none, []⟩,
  ⟨some 6, .mov (.t 84), none, []⟩] [83, 84]
def L_suffragelaw22_spoil_4 : AC := (.seq (.seq R_suffragelaw22_spoil_17 (.cond (.t 82) .skip (.exit 8))) (.seq (.block 9 R_suffragelaw22_spoil_19) R_suffragelaw22_spoil_18))
def R_suffragelaw22_spoil_7 : AC := .ops false [⟨some 25, .mov (.t 3), none, []⟩,
  ⟨some 26, .bin .add (.t 25) (.c (.int .i64 1)), none, []⟩,
  ⟨some 3, .mov (.t 26), none, []⟩] [6, 25, 26, 82]
def L_suffragelaw22_spoil_5 : AC := (.seq (.seq R_suffragelaw22_spoil_6 (.cond (.t 24) .skip (.exit 2))) (.seq (.block 3 (.seq (.seq R_suffragelaw22_spoil_8 (.block 4 (.loop L_suffragelaw22_spoil_3))) (.seq R_suffragelaw22_spoil_16 (.block 8 (.loop L_suffragelaw22_spoil_4))))) R_suffragelaw22_spoil_7))
def R_suffragelaw22_spoil_20 : AC := .ops false [⟨some 7, .mov (.c (.int .i64 0)), none, []⟩] [3, 24]
def R_suffragelaw22_spoil_21 : AC := .ops false [⟨some 93, .mov (.t 7), none, []⟩,
  ⟨some 94, .fa (.t 1) 2, none, []⟩,
  ⟨some 95, .load 1 true (.t 94), none, []⟩,
  ⟨some 96, .len (.t 95), none, []⟩,
  ⟨some 97, .bin .lss (.t 93) (.t 96), none, []⟩] [93, 94, 95, 96]
def R_suffragelaw22_spoil_23 : AC := .ops false [⟨some 8, .mov (.c (.int .i64 0)), none, []⟩] [97]
def R_suffragelaw22_spoil_24 : AC := .ops false [⟨some 100, .mov (.t 8), none, []⟩,
  ⟨some 101, .fa (.t 1) 2, none, []⟩,
  ⟨some 102, .load 1 true (.t 101), none, []⟩,
  ⟨some 103, .mov (.t 7), none, []⟩,
  ⟨some 104, .ia 2 (.t 102) (.t 103), none, []⟩,
  ⟨some 105, .fa (.t 104) 0, none, []⟩,
  ⟨some 106, .load 1 true (.t 105), none, []⟩,
  ⟨some 107, .len (.t 106), none, []⟩,
  ⟨some 108, .bin .lss (.t 100) (.t 107), none, []⟩] [100, 101, 102, 103, 104, 105, 106, 107]
def R_suffragelaw22_spoil_26 : AC := .ops false [⟨some 111, .fa (.t 1) 2, none, []⟩,
  ⟨some 112, .load 1 true (.t 111), none, []⟩,
  ⟨some 113, .mov (.t 7), none, []⟩,
  ⟨some 114, .ia 2 (.t 112) (.t 113), none, []⟩,
  ⟨some 115, .fa (.t 114) 0, none, []⟩,
  ⟨some 116, .load 1 true (.t 115), none, []⟩,
  ⟨some 117, .mov (.t 8), none, []⟩,
  ⟨some 118, .ia 1 (.t 116) (.t 117), none, []⟩,
  ⟨none, .store 1 (.t 118) (.c (.int .i64 (-7))), none, []⟩] [108, 111, 112, 113, 114, 115, 116, 117, 118]
def R_suffragelaw22_spoil_25 : AC := .ops false [⟨some 109, .mov (.t 8), none, []⟩,
  ⟨some 110, .bin .add (.t 109) (.c (.int .i64 1)), none, []⟩,
  ⟨some 8, .mov (.t 110), none, []⟩] [109, 110]
def L_suffragelaw22_spoil_6 : AC := (.seq (.seq R_suffragelaw22_spoil_24 (.cond (.t 108) .skip (.exit 12))) (.seq (.block 13 R_suffragelaw22_spoil_26) R_suffragelaw22_spoil_25))
def R_suffragelaw22_spoil_22 : AC := .ops false [⟨some 98, .mov (.t 7), none, []⟩,
  ⟨some 99, .bin .add (.t 98) (.c (.int .i64 1)), none, []⟩,
  ⟨some 7, .mov (.t 99), none, []⟩] [8, 98, 99, 108]
def L_suffragelaw22_spoil_7 : AC := (.seq (.seq R_suffragelaw22_spoil_21 (.cond (.t 97) .skip (.exit 10))) (.seq (.block 11 (.seq R_suffragelaw22_spoil_23 (.block 12 (.loop L_suffragelaw22_spoil_6)))) R_suffragelaw22_spoil_22))
def F_suffragelaw22_spoil : AFunc := { ntmps := 119, nargs := 1, kills := [[0], [], [9, 10, 11, 12], [14, 15], [13, 16, 17, 18, 19], [2, 13], [20, 21, 22, 23], [6, 25, 26, 82], [24], [27, 28, 29, 30, 31, 32, 33, 34], [36, 37], [35], [38, 39, 40, 41, 42, 43, 44, 45, 46, 47, 48, 49], [51, 52], [50, 53, 54, 55, 56, 57, 58, 59, 60, 61, 62, 63, 64], [5, 50, 65, 66, 67, 68, 69, 70, 71, 72, 73], [4, 35], [74, 75, 76, 77, 78, 79, 80, 81], [83, 84], [82, 85, 86, 87, 88, 89, 90, 91, 92], [3, 24], [93, 94, 95, 96], [8, 98, 99, 108], [97], [100, 101, 102, 103, 104, 105, 106, 107], [109, 110], [108, 111, 112, 113, 114, 115, 116, 117, 118]], results := [], body := (.seq R_suffragelaw22_spoil_0 (.seq (.seq R_suffragelaw22_spoil_1 (.block 0 (.loop L_suffragelaw22_spoil_1))) (.seq (.seq R_suffragelaw22_spoil_5 (.block 2 (.loop L_suffragelaw22_spoil_5))) (.seq R_suffragelaw22_spoil_20 (.block 10 (.loop L_suffragelaw22_spoil_7)))))) }
noncomputable def T13 : { F : AFunc // CT.func [[0], [], [9, 10, 11, 12], [14, 15], [13, 16, 17, 18, 19], [2, 13], [20, 21, 22, 23], [6, 25, 26, 82], [24], [27, 28, 29, 30, 31, 32, 33, 34], [36, 37], [35], [38, 39, 40, 41, 42, 43, 44, 45, 46, 47, 48, 49], [51, 52], [50, 53, 54, 55, 56, 57, 58, 59, 60, 61, 62, 63, 64], [5, 50, 65, 66, 67, 68, 69, 70, 71, 72, 73], [4, 35], [74, 75, 76, 77, 78, 79, 80, 81], [83, 84], [82, 85, 86, 87, 88, 89, 90, 91, 92], [3, 24], [93, 94, 95, 96], [8, 98, 99, 108], [97], [100, 101, 102, 103, 104, 105, 106, 107], [109, 110], [108, 111, 112, 113, 114, 115, 116, 117, 118]] Try.f13 = some F } := ⟨F_suffragelaw22_spoil, by kernel_rfl⟩
theorem c13 : Cert 13 T13.1 := cert_of T13.2 Try.func13
-- slices.Clone[[]int,int]
noncomputable def T14 : { F : AFunc // CT.func [[2], [3], [0, 4], [0, 4, 5, 6, 7]] Try.f14 = some F } := by
  refine ⟨?F, ?h⟩
  case h =>
    conv => lhs; cbv
theorem c14 : Cert 14 T14.1 := cert_of T14.2 Try.func14
-- slices.Clone[[]suffrage/api.Round,suffrage/api.Round]
noncomputable def T15 : { F : AFunc // CT.func [[2], [3], [0, 4], [0, 4, 5, 6, 7]] Try.f15 = some F } := by
  refine ⟨?F, ?h⟩
  case h =>
    conv => lhs; cbv
theorem c15 : Cert 15 T15.1 := cert_of T15.2 Try.func15
-- slices.Clone[[]suffrage/api.Tie,suffrage/api.Tie]
noncomputable def T16 : { F : AFunc // CT.func [[2], [3], [0, 4], [0, 4, 5, 6, 7]] Try.f16 = some F } := by
  refine ⟨?F, ?h⟩
  case h =>
    conv => lhs; cbv
theorem c16 : Cert 16 T16.1 := cert_of T16.2 Try.func16
-- suffrage/count.ratios
noncomputable def T17 : { F : AFunc // CT.func [[2], [0, 5, 6], [7], [], [10, 11], [4, 12, 13, 14, 15, 16, 17, 18, 19], [20], [3, 8, 9, 10, 21]] Try.f17 = some F } := by
  refine ⟨?F, ?h⟩
  case h =>
    conv => lhs; cbv
theorem c17 : Cert 17 T17.1 := cert_of T17.2 Try.func17
-- suffrage/ratio.Twin
noncomputable def T18 : { F : AFunc // CT.func [[0], [1, 3, 4, 5, 6, 7, 8, 9, 10, 11]] Try.f18 = some F } := by
  refine ⟨?F, ?h⟩
  case h =>
    conv => lhs; cbv
theorem c18 : Cert 18 T18.1 := cert_of T18.2 Try.func18
end Go.Proofs.Ytaehkmmlacpleaa
