/- The functions in the abstract language, printed by a program. -/
import Derived.Test.YtgajemhdpjomnaaGreatAlA
set_option linter.unusedVariables false
set_option maxRecDepth 100000
namespace Go.Proofs.YtgajemhdpjomnaaGreat
-- suffrage/suffragelaw22.CountNames
def R_suffragelaw22_CountNames_0 : AC := .ops false [⟨some 0, .mov (.c (.bool false)), none, []⟩] [0]
def R_suffragelaw22_CountNames_1 : AC := .ops false [⟨some 33, .call (.fn 5) [.c (.int .u8 9)], none, []⟩,
  ⟨some 32, .mov (.t 33), none, []⟩,
  ⟨some 34, .ext (.t 32) 0, none, []⟩,
  ⟨some 35, .ext (.t 32) 1, none, []⟩,
  ⟨some 1, .alloc [.str [], .lst 0 [] (some 0), .int .i64 0, .int .u8 0], none, []⟩,
  ⟨some 2, .alloc [.int .i64 0, .int .u8 0, .lst 0 [] (some 0)], none, []⟩,
  ⟨none, .store 4 (.t 1) (.t 34), none, []⟩,
  ⟨none, .store 3 (.t 2) (.t 35), none, []⟩] [32, 33, 34, 35]
def R_suffragelaw22_CountNames_2 : AC := .ops false [⟨some 37, .build [.str [], .lst 0 [] (some 0), .int .i64 0, .int .u8 0] [], none, []⟩,
  ⟨some 38, .load 3 false (.t 2), none, []⟩,
  ⟨some 39, .bslice 1 [.int .i64 0] 2 [(0, .c (.int .i64 0)), (1, .c (.int .i64 1))], none, []⟩,
  ⟨some 40, .call (.fn 6) [.t 37, .t 38, .t 39], none, []⟩,
  ⟨some 36, .mov (.t 40), none, []⟩,
  ⟨some 41, .ext (.t 36) 0, none, []⟩,
  ⟨some 42, .ext (.t 36) 1, none, []⟩,
  ⟨some 3, .alloc [.lst 0 [] (some 0), .lst 0 [] (some 0), .lst 0 [] (some 0)], none, []⟩,
  ⟨none, .store 3 (.t 3) (.t 41), none, []⟩,
  ⟨some 4, .mov (.t 42), none, []⟩] [3, 36, 37, 38, 39, 40, 41, 42]
def R_suffragelaw22_CountNames_3 : AC := .ops false [⟨some 44, .load 4 false (.t 1), none, []⟩,
  ⟨some 45, .build [.int .i64 0, .int .u8 0, .lst 0 [] (some 0)] [], none, []⟩,
  ⟨some 46, .bslice 1 [.int .i64 0] 2 [(0, .c (.int .i64 0)), (1, .c (.int .i64 1))], none, []⟩,
  ⟨some 47, .call (.fn 6) [.t 44, .t 45, .t 46], none, []⟩,
  ⟨some 43, .mov (.t 47), none, []⟩,
  ⟨some 48, .ext (.t 43) 0, none, []⟩,
  ⟨some 49, .ext (.t 43) 1, none, []⟩,
  ⟨some 5, .alloc [.lst 0 [] (some 0), .lst 0 [] (some 0), .lst 0 [] (some 0)], none, []⟩,
  ⟨none, .store 3 (.t 5) (.t 48), none, []⟩,
  ⟨some 6, .mov (.t 49), none, []⟩] [5, 43, 44, 45, 46, 47, 48, 49]
def R_suffragelaw22_CountNames_4 : AC := .ops false [⟨some 50, .fa (.t 1) 3, none, []⟩,
  ⟨none, .store 1 (.t 50) (.c (.int .u8 2)), none, []⟩] [50]
def R_suffragelaw22_CountNames_5 : AC := .ops false [⟨some 52, .load 4 false (.t 1), none, []⟩,
  ⟨some 53, .load 3 false (.t 2), none, []⟩,
  ⟨some 54, .bslice 1 [.int .i64 0] 2 [(0, .c (.int .i64 0)), (1, .c (.int .i64 1))], none, []⟩,
  ⟨some 55, .call (.fn 6) [.t 52, .t 53, .t 54], none, []⟩,
  ⟨some 51, .mov (.t 55), none, []⟩,
  ⟨some 56, .ext (.t 51) 0, none, []⟩,
  ⟨some 57, .ext (.t 51) 1, none, []⟩,
  ⟨some 7, .alloc [.lst 0 [] (some 0), .lst 0 [] (some 0), .lst 0 [] (some 0)], none, []⟩,
  ⟨none, .store 3 (.t 7) (.t 56), none, []⟩,
  ⟨some 8, .mov (.t 57), none, []⟩] [7, 51, 52, 53, 54, 55, 56, 57]
def R_suffragelaw22_CountNames_6 : AC := .ops false [⟨some 58, .fa (.t 1) 3, none, []⟩,
  ⟨none, .store 1 (.t 58) (.c (.int .u8 7)), none, []⟩] [58]
def R_suffragelaw22_CountNames_7 : AC := .ops false [⟨some 59, .fa (.t 1) 1, none, []⟩,
  ⟨some 60, .load 1 true (.t 59), none, []⟩,
  ⟨some 61, .bslice 1 [.str []] 1 [(0, .c (.str [122]))], none, []⟩,
  ⟨some 62, .append 1 16 (.t 60) (.t 61), none, []⟩,
  ⟨some 63, .fa (.t 1) 1, none, []⟩,
  ⟨none, .store 1 (.t 63) (.t 62), none, []⟩] [59, 60, 61, 62, 63]
def R_suffragelaw22_CountNames_8 : AC := .ops false [⟨some 65, .load 4 false (.t 1), none, []⟩,
  ⟨some 66, .load 3 false (.t 2), none, []⟩,
  ⟨some 67, .bslice 1 [.int .i64 0] 3 [(0, .c (.int .i64 0)), (1, .c (.int .i64 1)), (2, .c (.int .i64 2))], none, []⟩,
  ⟨some 68, .call (.fn 6) [.t 65, .t 66, .t 67], none, []⟩,
  ⟨some 64, .mov (.t 68), none, []⟩,
  ⟨some 69, .ext (.t 64) 0, none, []⟩,
  ⟨some 70, .ext (.t 64) 1, none, []⟩,
  ⟨some 9, .alloc [.lst 0 [] (some 0), .lst 0 [] (some 0), .lst 0 [] (some 0)], none, []⟩,
  ⟨none, .store 3 (.t 9) (.t 69), none, []⟩,
  ⟨some 10, .mov (.t 70), none, []⟩] [1, 2, 9, 64, 65, 66, 67, 68, 69, 70]
def R_suffragelaw22_CountNames_9 : AC := .ops false [⟨some 72, .bslice 1 [.int .i64 0] 1 [(0, .c (.int .i64 2))], none, []⟩,
  ⟨some 73, .build [.lst 0 [] (some 0), .lst 0 [] (some 0), .lst 0 [] (some 0)] [(0, 1, .t 72)], none, []⟩,
  ⟨some 74, .call (.fn 7) [.t 73, .c (.int .i64 2)], none, []⟩,
  ⟨some 71, .mov (.t 74), none, []⟩,
  ⟨some 75, .ext (.t 71) 0, none, []⟩,
  ⟨some 76, .ext (.t 71) 1, none, []⟩,
  ⟨some 11, .mov (.t 75), none, []⟩,
  ⟨some 12, .mov (.t 76), none, []⟩] [11, 71, 72, 73, 74, 75, 76]
def R_suffragelaw22_CountNames_10 : AC := .ops false [⟨some 78, .build [.lst 0 [] (some 0), .lst 0 [] (some 0), .lst 0 [] (some 0)] [], none, []⟩,
  ⟨some 79, .call (.fn 7) [.t 78, .c (.int .i64 0)], none, []⟩,
  ⟨some 77, .mov (.t 79), none, []⟩,
  ⟨some 80, .ext (.t 77) 0, none, []⟩,
  ⟨some 81, .ext (.t 77) 1, none, []⟩,
  ⟨some 13, .mov (.t 80), none, []⟩,
  ⟨some 14, .mov (.t 81), none, []⟩] [13, 77, 78, 79, 80, 81]
def R_suffragelaw22_CountNames_11 : AC := .ops false [⟨some 83, .build [.lst 0 [] (some 0), .lst 0 [] (some 0), .lst 0 [] (some 0)] [], none, []⟩,
  ⟨some 84, .call (.fn 7) [.t 83, .c (.int .i64 11)], none, []⟩,
  ⟨some 82, .mov (.t 84), none, []⟩,
  ⟨some 85, .ext (.t 82) 0, none, []⟩,
  ⟨some 86, .ext (.t 82) 1, none, []⟩,
  ⟨some 15, .mov (.t 85), none, []⟩,
  ⟨some 16, .mov (.t 86), none, []⟩] [15, 82, 83, 84, 85, 86]
def R_suffragelaw22_CountNames_12 : AC := .ops false [⟨some 88, .bslice 1 [.int .i64 0] 3 [(0, .c (.int .i64 1)), (1, .c (.int .i64 0)), (2, .c (.int .i64 1))], none, []⟩,
  ⟨some 89, .build [.lst 0 [] (some 0), .lst 0 [] (some 0), .lst 0 [] (some 0)] [(0, 1, .t 88)], none, []⟩,
  ⟨some 90, .call (.fn 7) [.t 89, .c (.int .i64 3)], none, []⟩,
  ⟨some 87, .mov (.t 90), none, []⟩,
  ⟨some 91, .ext (.t 87) 0, none, []⟩,
  ⟨some 92, .ext (.t 87) 1, none, []⟩,
  ⟨some 17, .mov (.t 91), none, []⟩,
  ⟨some 18, .mov (.t 92), none, []⟩] [87, 88, 89, 90, 91, 92]
def R_suffragelaw22_CountNames_13 : AC := .ops false [⟨some 93, .bslice 1 [.int .u32 0] 1 [(0, .c (.int .u32 1))], none, []⟩,
  ⟨some 94, .bslice 1 [.int .u32 0] 1 [(0, .c (.int .u32 1))], none, []⟩,
  ⟨some 95, .build [.bool false, .lst 0 [] (some 0), .lst 0 [] (some 0)] [(1, 1, .t 93), (2, 1, .t 94)], none, []⟩,
  ⟨some 19, .alloc [.bool false, .lst 0 [] (some 0), .lst 0 [] (some 0)], none, []⟩,
  ⟨none, .store 3 (.t 19) (.t 95), none, []⟩] [93, 94, 95]
def R_suffragelaw22_CountNames_14 : AC := .ops false [⟨some 96, .bslice 1 [.int .u32 0] 1 [(0, .c (.int .u32 2))], none, []⟩,
  ⟨some 97, .bslice 1 [.int .u32 0] 1 [(0, .c (.int .u32 1))], none, []⟩,
  ⟨some 98, .build [.bool false, .lst 0 [] (some 0), .lst 0 [] (some 0)] [(1, 1, .t 96), (2, 1, .t 97)], none, []⟩,
  ⟨some 20, .alloc [.bool false, .lst 0 [] (some 0), .lst 0 [] (some 0)], none, []⟩,
  ⟨none, .store 3 (.t 20) (.t 98), none, []⟩] [96, 97, 98]
def R_suffragelaw22_CountNames_15 : AC := .ops false [⟨some 99, .bslice 1 [.int .i64 0] 2 [(0, .c (.int .i64 2)), (1, .c (.int .i64 0))], none, []⟩,
  ⟨some 100, .load 3 false (.t 19), none, []⟩,
  ⟨some 101, .load 3 false (.t 20), none, []⟩,
  ⟨some 102, .load 3 false (.t 19), none, []⟩,
  ⟨some 103, .bslice 3 [.bool false, .lst 0 [] (some 0), .lst 0 [] (some 0)] 3 [(0, .t 100), (1, .t 101), (2, .t 102)], none, []⟩,
  ⟨some 104, .load 3 false (.t 19), none, []⟩,
  ⟨some 105, .bslice 1 [.int .i64 0] 1 [(0, .c (.int .i64 2))], none, []⟩,
  ⟨some 106, .bslice 1 [.int .i64 0] 1 [(0, .c (.int .i64 1))], none, []⟩,
  ⟨some 107, .build [.lst 0 [] (some 0), .bool false, .lst 0 [] (some 0), .lst 0 [] (some 0), .lst 0 [] (some 0), .lst 0 [] (some 0)] [(0, 1, .t 103), (1, 3, .t 104), (4, 1, .t 105), (5, 1, .t 106)], none, []⟩,
  ⟨some 108, .bslice 6 [.lst 0 [] (some 0), .bool false, .lst 0 [] (some 0), .lst 0 [] (some 0), .lst 0 [] (some 0), .lst 0 [] (some 0)] 1 [(0, .t 107)], none, []⟩,
  ⟨some 109, .bslice 1 [.int .i64 0] 2 [(0, .c (.int .i64 0)), (1, .c (.int .i64 2))], none, []⟩,
  ⟨some 110, .build [.lst 0 [] (some 0), .int .i64 0] [(0, 1, .t 109), (1, 1, .c (.int .i64 2))], none, []⟩,
  ⟨some 111, .bslice 2 [.lst 0 [] (some 0), .int .i64 0] 1 [(0, .t 110)], none, []⟩,
  ⟨some 112, .build [.lst 0 [] (some 0), .lst 0 [] (some 0), .lst 0 [] (some 0)] [(0, 1, .t 99), (1, 1, .t 108), (2, 1, .t 111)], none, []⟩,
  ⟨some 21, .alloc [.lst 0 [] (some 0), .lst 0 [] (some 0), .lst 0 [] (some 0)], none, []⟩,
  ⟨none, .store 3 (.t 21) (.t 112), none, []⟩] [99, 100, 101, 102, 103, 104, 105, 106, 107, 108, 109, 110, 111, 112]
def R_suffragelaw22_CountNames_16 : AC := .ops false [⟨some 114, .load 3 false (.t 21), none, []⟩,
  ⟨some 115, .bslice 1 [.int .i64 0] 3 [(0, .c (.int .i64 2)), (1, .c (.int .i64 0)), (2, .c (.int .i64 1))], none, []⟩,
  ⟨some 116, .call (.fn 8) [.t 114, .t 115], none, []⟩,
  ⟨some 113, .mov (.t 116), none, []⟩,
  ⟨some 117, .ext (.t 113) 0, none, []⟩,
  ⟨some 118, .ext (.t 113) 1, none, []⟩,
  ⟨some 22, .alloc [.lst 0 [] (some 0), .lst 0 [] (some 0), .lst 0 [] (some 0)], none, []⟩,
  ⟨none, .store 3 (.t 22) (.t 117), none, []⟩,
  ⟨some 23, .mov (.t 118), none, []⟩] [113, 114, 115, 116, 117, 118]
def R_suffragelaw22_CountNames_17 : AC := .ops false [⟨some 119, .bslice 1 [.int .i64 0] 2 [(0, .c (.int .i64 1)), (1, .c (.int .i64 2))], none, []⟩,
  ⟨some 120, .load 3 false (.t 20), none, []⟩,
  ⟨some 121, .load 3 false (.t 19), none, []⟩,
  ⟨some 122, .load 3 false (.t 19), none, []⟩,
  ⟨some 123, .bslice 3 [.bool false, .lst 0 [] (some 0), .lst 0 [] (some 0)] 3 [(0, .t 120), (1, .t 121), (2, .t 122)], none, []⟩,
  ⟨some 124, .load 3 false (.t 19), none, []⟩,
  ⟨some 125, .bslice 1 [.int .i64 0] 1 [(0, .c (.int .i64 1))], none, []⟩,
  ⟨some 126, .bslice 1 [.int .i64 0] 1 [(0, .c (.int .i64 0))], none, []⟩,
  ⟨some 127, .build [.lst 0 [] (some 0), .bool false, .lst 0 [] (some 0), .lst 0 [] (some 0), .lst 0 [] (some 0), .lst 0 [] (some 0)] [(0, 1, .t 123), (1, 3, .t 124), (4, 1, .t 125), (5, 1, .t 126)], none, []⟩,
  ⟨some 128, .bslice 6 [.lst 0 [] (some 0), .bool false, .lst 0 [] (some 0), .lst 0 [] (some 0), .lst 0 [] (some 0), .lst 0 [] (some 0)] 1 [(0, .t 127)], none, []⟩,
  ⟨some 129, .bslice 1 [.int .i64 0] 2 [(0, .c (.int .i64 1)), (1, .c (.int .i64 2))], none, []⟩,
  ⟨some 130, .build [.lst 0 [] (some 0), .int .i64 0] [(0, 1, .t 129), (1, 1, .c (.int .i64 1))], none, []⟩,
  ⟨some 131, .bslice 2 [.lst 0 [] (some 0), .int .i64 0] 1 [(0, .t 130)], none, []⟩,
  ⟨some 132, .build [.lst 0 [] (some 0), .lst 0 [] (some 0), .lst 0 [] (some 0)] [(0, 1, .t 119), (1, 1, .t 128), (2, 1, .t 131)], none, []⟩,
  ⟨some 24, .alloc [.lst 0 [] (some 0), .lst 0 [] (some 0), .lst 0 [] (some 0)], none, []⟩,
  ⟨none, .store 3 (.t 24) (.t 132), none, []⟩] [19, 20, 119, 120, 121, 122, 123, 124, 125, 126, 127, 128, 129, 130, 131, 132]
def R_suffragelaw22_CountNames_18 : AC := .ops false [⟨some 134, .load 3 false (.t 21), none, []⟩,
  ⟨some 135, .bslice 1 [.int .i64 0] 2 [(0, .c (.int .i64 1)), (1, .c (.int .i64 0))], none, []⟩,
  ⟨some 136, .call (.fn 8) [.t 134, .t 135], none, []⟩,
  ⟨some 133, .mov (.t 136), none, []⟩,
  ⟨some 137, .ext (.t 133) 0, none, []⟩,
  ⟨some 138, .ext (.t 133) 1, none, []⟩,
  ⟨some 25, .alloc [.lst 0 [] (some 0), .lst 0 [] (some 0), .lst 0 [] (some 0)], none, []⟩,
  ⟨none, .store 3 (.t 25) (.t 137), none, []⟩,
  ⟨some 26, .mov (.t 138), none, []⟩] [25, 133, 134, 135, 136, 137, 138]
def R_suffragelaw22_CountNames_19 : AC := .ops false [⟨some 140, .load 3 false (.t 21), none, []⟩,
  ⟨some 141, .bslice 1 [.int .i64 0] 3 [(0, .c (.int .i64 2)), (1, .c (.int .i64 0)), (2, .c (.int .i64 0))], none, []⟩,
  ⟨some 142, .call (.fn 8) [.t 140, .t 141], none, []⟩,
  ⟨some 139, .mov (.t 142), none, []⟩,
  ⟨some 143, .ext (.t 139) 0, none, []⟩,
  ⟨some 144, .ext (.t 139) 1, none, []⟩,
  ⟨some 27, .alloc [.lst 0 [] (some 0), .lst 0 [] (some 0), .lst 0 [] (some 0)], none, []⟩,
  ⟨none, .store 3 (.t 27) (.t 143), none, []⟩,
  ⟨some 28, .mov (.t 144), none, []⟩] [21, 27, 139, 140, 141, 142, 143, 144]
def R_suffragelaw22_CountNames_20 : AC := .ops false [⟨some 146, .build [.lst 0 [] (some 0), .lst 0 [] (some 0), .lst 0 [] (some 0)] [], none, []⟩,
  ⟨some 147, .call (.fn 8) [.t 146, .c (.lst 0 [] (some 0))], none, []⟩,
  ⟨some 145, .mov (.t 147), none, []⟩,
  ⟨some 148, .ext (.t 145) 0, none, []⟩,
  ⟨some 149, .ext (.t 145) 1, none, []⟩,
  ⟨some 29, .alloc [.lst 0 [] (some 0), .lst 0 [] (some 0), .lst 0 [] (some 0)], none, []⟩,
  ⟨none, .store 3 (.t 29) (.t 148), none, []⟩,
  ⟨some 30, .mov (.t 149), none, []⟩] [29, 145, 146, 147, 148, 149]
def R_suffragelaw22_CountNames_21 : AC := .ops false [⟨some 150, .mov (.t 4), none, []⟩,
  ⟨some 151, .bin .eql (.t 150) (.c (.int .i64 8)), none, []⟩,
  ⟨some 152, .mov (.t 151), none, []⟩,
  ⟨some 153, .mov (.t 6), some (152, true), []⟩,
  ⟨some 154, .bin .neq (.t 153) (.c (.int .i64 0)), some (152, true), []⟩,
  ⟨some 155, .pick (.t 152) (.t 154) (.c (.bool false)), none, []⟩,
  ⟨some 156, .mov (.t 155), none, []⟩,
  ⟨some 157, .mov (.t 8), some (156, true), []⟩,
  ⟨some 158, .bin .eql (.t 157) (.c (.int .i64 270)), some (156, true), []⟩,
  ⟨some 159, .pick (.t 156) (.t 158) (.c (.bool false)), none, []⟩,
  ⟨some 160, .mov (.t 159), none, []⟩,
  ⟨some 161, .mov (.t 10), some (160, true), []⟩,
  ⟨some 162, .bin .eql (.t 161) (.c (.int .i64 270)), some (160, true), []⟩,
  ⟨some 163, .pick (.t 160) (.t 162) (.c (.bool false)), none, []⟩,
  ⟨some 164, .mov (.t 163), none, []⟩,
  ⟨some 165, .mov (.t 12), some (164, true), []⟩,
  ⟨some 166, .bin .eql (.t 165) (.c (.int .i64 2)), some (164, true), []⟩,
  ⟨some 167, .pick (.t 164) (.t 166) (.c (.bool false)), none, []⟩,
  ⟨some 168, .mov (.t 167), none, []⟩,
  ⟨some 169, .mov (.t 14), some (168, true), []⟩,
  ⟨some 170, .bin .eql (.t 169) (.c (.int .i64 2)), some (168, true), []⟩,
  ⟨some 171, .pick (.t 168) (.t 170) (.c (.bool false)), none, []⟩,
  ⟨some 172, .mov (.t 171), none, []⟩,
  ⟨some 173, .mov (.t 16), some (172, true), []⟩,
  ⟨some 174, .bin .eql (.t 173) (.c (.int .i64 2)), some (172, true), []⟩,
  ⟨some 175, .pick (.t 172) (.t 174) (.c (.bool false)), none, []⟩,
  ⟨some 176, .mov (.t 175), none, []⟩,
  ⟨some 177, .mov (.t 26), some (176, true), []⟩,
  ⟨some 178, .bin .eql (.t 177) (.c (.int .i64 2)), some (176, true), []⟩,
  ⟨some 179, .pick (.t 176) (.t 178) (.c (.bool false)), none, []⟩,
  ⟨some 180, .mov (.t 179), none, []⟩,
  ⟨some 181, .mov (.t 28), some (180, true), []⟩,
  ⟨some 182, .bin .eql (.t 181) (.c (.int .i64 2)), some (180, true), []⟩,
  ⟨some 183, .pick (.t 180) (.t 182) (.c (.bool false)), none, []⟩,
  ⟨some 184, .mov (.t 183), none, []⟩,
  ⟨some 185, .mov (.t 30), some (184, true), []⟩,
  ⟨some 186, .bin .eql (.t 185) (.c (.int .i64 2)), some (184, true), []⟩,
  ⟨some 187, .pick (.t 184) (.t 186) (.c (.bool false)), none, []⟩,
  ⟨some 31, .mov (.t 187), none, []⟩] [4, 6, 8, 10, 12, 14, 16, 26, 28, 30, 150, 151, 152, 153, 154, 155, 156, 157, 158, 159, 160, 161, 162, 163, 164, 165, 166, 167, 168, 169, 170, 171, 172, 173, 174, 175, 176, 177, 178, 179, 180, 181, 182, 183, 184, 185, 186, 187]
def R_suffragelaw22_CountNames_22 : AC := .ops false [⟨some 188, .mov (.c (.bool true)), none, []⟩,
  ⟨some 189, .call (.fn 9) [], some (188, true), []⟩,
  ⟨some 190, .pick (.t 188) (.t 189) (.c (.bool false)), none, []⟩,
  ⟨some 191, .mov (.t 190), none, []⟩,
  ⟨some 192, .mov (.t 31), some (191, true), []⟩,
  ⟨some 193, .pick (.t 191) (.t 192) (.c (.bool false)), none, []⟩,
  ⟨some 194, .mov (.t 193), none, []⟩,
  ⟨some 195, .mov (.t 18), some (194, true), []⟩,
  ⟨some 196, .bin .eql (.t 195) (.c (.int .i64 0)), some (194, true), []⟩,
  ⟨some 197, .pick (.t 194) (.t 196) (.c (.bool false)), none, []⟩,
  ⟨some 198, .mov (.t 197), none, []⟩,
  ⟨some 199, .mov (.t 17), some (198, true), []⟩,
  ⟨some 200, .bslice 1 [.int .i64 0] 3 [(0, .c (.int .i64 1)), (1, .c (.int .i64 2)), (2, .c (.int .i64 0))], some (198, true), []⟩,
  ⟨some 201, .call (.fn 10) [.t 199, .t 200], some (198, true), []⟩,
  ⟨some 202, .pick (.t 198) (.t 201) (.c (.bool false)), none, []⟩,
  ⟨some 203, .mov (.t 202), none, []⟩,
  ⟨some 204, .mov (.t 23), some (203, true), []⟩,
  ⟨some 205, .bin .eql (.t 204) (.c (.int .i64 0)), some (203, true), []⟩,
  ⟨some 206, .pick (.t 203) (.t 205) (.c (.bool false)), none, []⟩,
  ⟨some 207, .mov (.t 206), none, []⟩,
  ⟨some 208, .load 3 false (.t 22), some (207, true), []⟩,
  ⟨some 209, .load 3 false (.t 24), some (207, true), []⟩,
  ⟨some 210, .call (.fn 11) [.t 208, .t 209], some (207, true), []⟩,
  ⟨some 211, .pick (.t 207) (.t 210) (.c (.bool false)), none, []⟩,
  ⟨some 0, .mov (.t 211), none, []⟩] [17, 18, 22, 23, 24, 31, 188, 189, 190, 191, 192, 193, 194, 195, 196, 197, 198, 199, 200, 201, 202, 203, 204, 205, 206, 207, 208, 209, 210, 211]
def F_suffragelaw22_CountNames : AFunc := { ntmps := 212, nargs := 0, kills := [[0], [32, 33, 34, 35], [3, 36, 37, 38, 39, 40, 41, 42], [5, 43, 44, 45, 46, 47, 48, 49], [50], [7, 51, 52, 53, 54, 55, 56, 57], [58], [59, 60, 61, 62, 63], [1, 2, 9, 64, 65, 66, 67, 68, 69, 70], [11, 71, 72, 73, 74, 75, 76], [13, 77, 78, 79, 80, 81], [15, 82, 83, 84, 85, 86], [87, 88, 89, 90, 91, 92], [93, 94, 95], [96, 97, 98], [99, 100, 101, 102, 103, 104, 105, 106, 107, 108, 109, 110, 111, 112], [113, 114, 115, 116, 117, 118], [19, 20, 119, 120, 121, 122, 123, 124, 125, 126, 127, 128, 129, 130, 131, 132], [25, 133, 134, 135, 136, 137, 138], [21, 27, 139, 140, 141, 142, 143, 144], [29, 145, 146, 147, 148, 149], [4, 6, 8, 10, 12, 14, 16, 26, 28, 30, 150, 151, 152, 153, 154, 155, 156, 157, 158, 159, 160, 161, 162, 163, 164, 165, 166, 167, 168, 169, 170, 171, 172, 173, 174, 175, 176, 177, 178, 179, 180, 181, 182, 183, 184, 185, 186, 187], [17, 18, 22, 23, 24, 31, 188, 189, 190, 191, 192, 193, 194, 195, 196, 197, 198, 199, 200, 201, 202, 203, 204, 205, 206, 207, 208, 209, 210, 211]], results := [.t 0], body := (.seq R_suffragelaw22_CountNames_0 (.seq R_suffragelaw22_CountNames_1 (.seq R_suffragelaw22_CountNames_2 (.seq R_suffragelaw22_CountNames_3 (.seq R_suffragelaw22_CountNames_4 (.seq R_suffragelaw22_CountNames_5 (.seq R_suffragelaw22_CountNames_6 (.seq R_suffragelaw22_CountNames_7 (.seq R_suffragelaw22_CountNames_8 (.seq R_suffragelaw22_CountNames_9 (.seq R_suffragelaw22_CountNames_10 (.seq R_suffragelaw22_CountNames_11 (.seq R_suffragelaw22_CountNames_12 (.seq R_suffragelaw22_CountNames_13 (.seq R_suffragelaw22_CountNames_14 (.seq R_suffragelaw22_CountNames_15 (.seq R_suffragelaw22_CountNames_16 (.seq R_suffragelaw22_CountNames_17 (.seq R_suffragelaw22_CountNames_18 (.seq R_suffragelaw22_CountNames_19 (.seq R_suffragelaw22_CountNames_20 (.seq R_suffragelaw22_CountNames_21 (.seq R_suffragelaw22_CountNames_22 .ret))))))))))))))))))))))) }
abbrev k_suffragelaw22_CountNames : Nat := 3
-- suffrage/suffragelaw22.five
def R_suffragelaw22_five_0 : AC := .ops false [⟨some 2, .alloc [.str [], .lst 0 [] (some 0), .int .i64 0, .int .u8 0], none, []⟩,
  ⟨some 3, .alloc [.int .i64 0, .int .u8 0, .lst 0 [] (some 0)], none, []⟩] []
def R_suffragelaw22_five_1 : AC := .ops false [⟨some 5, .bslice 1 [.str []] 2 [(0, .c (.str [97])), (1, .c (.str [98]))], none, []⟩,
  ⟨some 6, .mov (.t 0), none, []⟩,
  ⟨some 7, .build [.str [], .lst 0 [] (some 0), .int .i64 0, .int .u8 0] [(0, 1, .c (.str [120])), (1, 1, .t 5), (2, 1, .c (.int .i64 1)), (3, 1, .t 6)], none, []⟩,
  ⟨some 4, .alloc [.str [], .lst 0 [] (some 0), .int .i64 0, .int .u8 0], none, []⟩,
  ⟨none, .store 4 (.t 4) (.t 7), none, []⟩] [0, 5, 6, 7]
def R_suffragelaw22_five_2 : AC := .ops false [⟨some 8, .load 4 false (.t 4), none, []⟩,
  ⟨some 9, .bslice 1 [.int .i64 0] 2 [(0, .c (.int .i64 0)), (1, .c (.int .i64 1))], none, []⟩,
  ⟨some 10, .build [.lst 0 [] (some 0), .int .i64 0] [(0, 1, .t 9), (1, 1, .c (.int .i64 3))], none, []⟩,
  ⟨some 11, .bslice 1 [.int .i64 0] 2 [(0, .c (.int .i64 1)), (1, .c (.int .i64 0))], none, []⟩,
  ⟨some 12, .build [.lst 0 [] (some 0), .int .i64 0] [(0, 1, .t 11), (1, 1, .c (.int .i64 2))], none, []⟩,
  ⟨some 13, .bslice 2 [.lst 0 [] (some 0), .int .i64 0] 2 [(0, .t 10), (1, .t 12)], none, []⟩,
  ⟨some 14, .build [.int .i64 0, .int .u8 0, .lst 0 [] (some 0)] [(0, 1, .c (.int .i64 2)), (1, 1, .c (.int .u8 1)), (2, 1, .t 13)], none, []⟩,
  ⟨none, .store 4 (.t 2) (.t 8), none, []⟩,
  ⟨none, .store 3 (.t 3) (.t 14), none, []⟩] [4, 8, 9, 10, 11, 12, 13, 14]
def F_suffragelaw22_five : AFunc := { ntmps := 15, nargs := 1, kills := [[], [0, 5, 6, 7], [4, 8, 9, 10, 11, 12, 13, 14]], results := [.cell 2 4 false, .cell 3 3 false], body := (.seq R_suffragelaw22_five_0 (.seq R_suffragelaw22_five_1 (.seq R_suffragelaw22_five_2 .ret))) }
abbrev k_suffragelaw22_five : Nat := 5
-- suffrage/count.Run
def R_count_Run_0 : AC := .ops false [⟨some 3, .box (.t 0), none, []⟩,
  ⟨some 4, .box (.t 1), none, []⟩,
  ⟨some 6, .alloc [.lst 0 [] (some 0), .lst 0 [] (some 0), .lst 0 [] (some 0)], none, []⟩,
  ⟨some 7, .mov (.c (.int .i64 0)), none, []⟩] [0, 1, 7]
def R_count_Run_1 : AC := .ops false [⟨some 12, .load 4 false (.t 3), none, []⟩,
  ⟨some 13, .call (.fn 18) [.t 12], none, []⟩,
  ⟨some 8, .mov (.t 13), none, []⟩] [12, 13]
def R_count_Run_2 : AC := .ops false [⟨some 14, .mov (.t 8), none, []⟩,
  ⟨some 15, .bin .neq (.t 14) (.c (.int .i64 0)), none, []⟩] [14]
def R_count_Run_3 : AC := .ops false [⟨some 16, .build [.lst 0 [] (some 0), .lst 0 [] (some 0), .lst 0 [] (some 0)] [], none, []⟩,
  ⟨some 17, .mov (.t 8), none, []⟩,
  ⟨none, .store 3 (.t 6) (.t 16), none, []⟩,
  ⟨some 7, .mov (.t 17), none, []⟩] [2, 3, 4, 8, 15, 16, 17]
def R_count_Run_4 : AC := .ops false [⟨some 18, .load 3 false (.t 4), none, []⟩,
  ⟨some 19, .call (.fn 19) [.t 18], none, []⟩,
  ⟨some 9, .mov (.t 19), none, []⟩] [8, 15, 18, 19]
def R_count_Run_5 : AC := .ops false [⟨some 20, .mov (.t 9), none, []⟩,
  ⟨some 21, .bin .neq (.t 20) (.c (.int .i64 0)), none, []⟩] [20]
def R_count_Run_6 : AC := .ops false [⟨some 22, .build [.lst 0 [] (some 0), .lst 0 [] (some 0), .lst 0 [] (some 0)] [], none, []⟩,
  ⟨some 23, .mov (.t 9), none, []⟩,
  ⟨none, .store 3 (.t 6) (.t 22), none, []⟩,
  ⟨some 7, .mov (.t 23), none, []⟩] [2, 3, 4, 9, 21, 22, 23]
def R_count_Run_7 : AC := .ops false [⟨some 25, .fa (.t 3) 3, none, []⟩,
  ⟨some 26, .load 1 true (.t 25), none, []⟩,
  ⟨some 27, .call (.fn 20) [.t 26], none, []⟩,
  ⟨some 24, .mov (.t 27), none, []⟩,
  ⟨some 28, .ext (.t 24) 0, none, []⟩,
  ⟨some 29, .ext (.t 24) 1, none, []⟩,
  ⟨some 10, .mov (.t 28), none, []⟩,
  ⟨some 11, .mov (.t 29), none, []⟩] [9, 11, 21, 24, 25, 26, 27, 28, 29]
def R_count_Run_8 : AC := .ops false [⟨some 30, .mov (.t 10), none, []⟩,
  ⟨some 31, .fa (.t 4) 1, none, []⟩,
  ⟨some 32, .load 1 true (.t 31), none, []⟩,
  ⟨some 33, .bin .neq (.t 30) (.t 32), none, []⟩,
  ⟨some 34, .mov (.t 33), none, []⟩,
  ⟨some 35, .fa (.t 4) 0, some (34, false), []⟩,
  ⟨some 36, .load 1 true (.t 35), some (34, false), []⟩,
  ⟨some 37, .fa (.t 3) 1, some (34, false), []⟩,
  ⟨some 38, .load 1 true (.t 37), some (34, false), []⟩,
  ⟨some 39, .len (.t 38), some (34, false), []⟩,
  ⟨some 40, .bin .neq (.t 36) (.t 39), some (34, false), []⟩,
  ⟨some 41, .pick (.t 34) (.c (.bool true)) (.t 40), none, []⟩] [10, 30, 31, 32, 33, 34, 35, 36, 37, 38, 39, 40]
def R_count_Run_9 : AC := .ops false [⟨some 42, .build [.lst 0 [] (some 0), .lst 0 [] (some 0), .lst 0 [] (some 0)] [], none, []⟩,
  ⟨none, .store 3 (.t 6) (.t 42), none, []⟩,
  ⟨some 7, .mov (.c (.int .i64 270)), none, []⟩] [2, 3, 4, 41, 42]
def R_count_Run_10 : AC := .ops true [⟨some 43, .call (.fn 21) [], none, []⟩,
  ⟨some 44, .fa (.t 3) 3, none, []⟩,
  ⟨some 45, .load 1 true (.t 44), none, [1]⟩,
  ⟨some 46, .mget 0 (.agg [.nilf]) false (.t 43) (.t 45), none, [0, 2]⟩,
  ⟨some 47, .fld (.t 46) 0 1 true, none, [3]⟩,
  ⟨some 48, .load 3 false (.t 4), none, []⟩,
  ⟨some 49, .fa (.t 3) 2, none, []⟩,
  ⟨some 50, .load 1 true (.t 49), none, [6]⟩,
  ⟨some 51, .mov (.t 2), none, []⟩,
  ⟨some 52, .call (.dyn (.t 47)) [.t 48, .t 50, .t 51], none, [4, 5, 7, 8, 0]⟩,
  ⟨some 53, .ext (.t 52) 0, none, [9]⟩,
  ⟨some 54, .ext (.t 52) 1, none, [9]⟩,
  ⟨none, .store 3 (.t 6) (.t 53), none, [10, 9, 0, 1, 2, 3, 4, 5, 6, 7, 8, 9, 10, 11]⟩,
  ⟨some 7, .mov (.t 54), none, [11, 12, 0, 1, 2, 3, 4, 5, 6, 7, 8, 9, 10, 11, 12]⟩] [2, 3, 4, 41, 43, 44, 45, 46, 47, 48, 49, 50, 51, 52, 53, 54]
def F_count_Run : AFunc := { ntmps := 55, nargs := 3, kills := [[0, 1, 7], [12, 13], [14], [2, 3, 4, 8, 15, 16, 17], [8, 15, 18, 19], [20], [2, 3, 4, 9, 21, 22, 23], [9, 11, 21, 24, 25, 26, 27, 28, 29], [10, 30, 31, 32, 33, 34, 35, 36, 37, 38, 39, 40], [2, 3, 4, 41, 42], [2, 3, 4, 41, 43, 44, 45, 46, 47, 48, 49, 50, 51, 52, 53, 54]], results := [.cell 6 3 false, .t 7], body := (.seq R_count_Run_0 (.seq (.seq R_count_Run_1 (.seq R_count_Run_2 (.cond (.t 15) (.seq R_count_Run_3 .ret) .skip))) (.seq (.seq R_count_Run_4 (.seq R_count_Run_5 (.cond (.t 21) (.seq R_count_Run_6 .ret) .skip))) (.seq (.seq R_count_Run_7 (.seq R_count_Run_8 (.cond (.t 41) (.seq R_count_Run_9 .ret) .skip))) (.seq R_count_Run_10 .ret))))) }
abbrev k_count_Run : Nat := 6
-- suffrage/count.Seats
def R_count_Seats_0 : AC := .ops false [⟨some 2, .box (.t 0), none, []⟩,
  ⟨some 4, .mov (.c (.lst 0 [] (some 0))), none, []⟩,
  ⟨some 5, .mov (.c (.int .i64 0)), none, []⟩] [0, 4, 5]
def R_count_Seats_1 : AC := .ops false [⟨some 9, .mov (.t 1), none, []⟩,
  ⟨some 10, .bin .lss (.t 9) (.c (.int .i64 1)), none, []⟩,
  ⟨some 11, .mov (.t 10), none, []⟩,
  ⟨some 12, .mov (.t 1), some (11, false), []⟩,
  ⟨some 13, .bin .gtr (.t 12) (.c (.int .i64 10)), some (11, false), []⟩,
  ⟨some 14, .pick (.t 11) (.c (.bool true)) (.t 13), none, []⟩] [9, 10, 11, 12, 13]
def R_count_Seats_2 : AC := .ops false [⟨some 4, .mov (.c (.lst 0 [] (some 0))), none, []⟩,
  ⟨some 5, .mov (.c (.int .i64 2)), none, []⟩] [1, 2, 14]
def R_count_Seats_3 : AC := .ops false [⟨some 15, .mov (.t 1), none, []⟩,
  ⟨some 16, .mkslice 1 8 [.int .i64 0] (.t 15) (.t 15), none, []⟩,
  ⟨some 6, .mov (.t 16), none, []⟩] [14, 15, 16]
def R_count_Seats_4 : AC := .ops false [⟨some 17, .fa (.t 2) 0, none, []⟩,
  ⟨some 18, .load 1 true (.t 17), none, []⟩,
  ⟨some 19, .len (.t 18), none, []⟩,
  ⟨some 20, .mov (.c (.int .i64 0)), none, []⟩] [2, 17]
def R_count_Seats_5 : AC := .ops false [⟨some 21, .bin .lss (.t 20) (.t 19), none, []⟩] []
def R_count_Seats_6 : AC := .ops false [⟨some 22, .ia 1 (.t 18) (.t 20), none, []⟩,
  ⟨some 23, .load 1 true (.t 22), none, []⟩,
  ⟨some 8, .mov (.t 23), none, []⟩] [21, 22, 23]
def R_count_Seats_7 : AC := .ops false [⟨some 24, .mov (.t 8), none, []⟩,
  ⟨some 25, .bin .lss (.t 24) (.c (.int .i64 0)), none, []⟩,
  ⟨some 26, .mov (.t 25), none, []⟩,
  ⟨some 27, .mov (.t 8), some (26, false), []⟩,
  ⟨some 28, .mov (.t 1), some (26, false), []⟩,
  ⟨some 29, .bin .geq (.t 27) (.t 28), some (26, false), []⟩,
  ⟨some 30, .pick (.t 26) (.c (.bool true)) (.t 29), none, []⟩] [24, 25, 26, 27, 28, 29]
def R_count_Seats_8 : AC := .ops false [⟨some 4, .mov (.c (.lst 0 [] (some 0))), none, []⟩,
  ⟨some 5, .mov (.c (.int .i64 2)), none, []⟩] [1, 6, 8, 18, 19, 20, 30]
def R_count_Seats_9 : AC := .ops false [⟨some 31, .mov (.t 6), none, []⟩,
  ⟨some 32, .mov (.t 8), none, []⟩,
  ⟨some 33, .ia 1 (.t 31) (.t 32), none, []⟩,
  ⟨some 34, .load 1 true (.t 33), none, []⟩,
  ⟨some 35, .bin .add (.t 34) (.c (.int .i64 1)), none, []⟩,
  ⟨some 36, .ia 1 (.t 31) (.t 32), none, []⟩,
  ⟨none, .store 1 (.t 36) (.t 35), none, []⟩] [8, 30, 31, 32, 33, 34, 35, 36]
def R_count_Seats_10 : AC := .ops false [⟨some 37, .bin .add (.t 20) (.c (.int .i64 1)), none, []⟩,
  ⟨some 20, .mov (.t 37), none, []⟩] [37]
def L_count_Seats_1 : AC := (.seq R_count_Seats_5 (.seq (.cond (.t 21) .skip (.exit 0)) (.seq (.block 1 (.seq R_count_Seats_6 (.seq (.seq R_count_Seats_7 (.cond (.t 30) (.seq R_count_Seats_8 .ret) .skip)) R_count_Seats_9))) R_count_Seats_10)))
def R_count_Seats_11 : AC := .ops false [⟨some 38, .mov (.t 6), none, []⟩,
  ⟨some 4, .mov (.t 38), none, []⟩,
  ⟨some 5, .mov (.c (.int .i64 0)), none, []⟩] [1, 6, 18, 19, 20, 21, 38]
def F_count_Seats : AFunc := { ntmps := 39, nargs := 2, kills := [[0, 4, 5], [9, 10, 11, 12, 13], [1, 2, 14], [14, 15, 16], [2, 17], [], [21, 22, 23], [24, 25, 26, 27, 28, 29], [1, 6, 8, 18, 19, 20, 30], [8, 30, 31, 32, 33, 34, 35, 36], [37], [1, 6, 18, 19, 20, 21, 38]], results := [.t 4, .t 5], body := (.seq R_count_Seats_0 (.seq (.seq R_count_Seats_1 (.cond (.t 14) (.seq R_count_Seats_2 .ret) .skip)) (.seq R_count_Seats_3 (.seq (.seq R_count_Seats_4 (.block 0 (.loop L_count_Seats_1))) (.seq R_count_Seats_11 .ret))))) }
abbrev k_count_Seats : Nat := 7
-- suffrage/count.Rename
def R_count_Rename_0 : AC := .ops false [⟨some 2, .box (.t 0), none, []⟩,
  ⟨some 3, .box (.t 1), none, []⟩,
  ⟨some 4, .alloc [.lst 0 [] (some 0), .lst 0 [] (some 0), .lst 0 [] (some 0)], none, []⟩,
  ⟨some 5, .mov (.c (.int .i64 0)), none, []⟩] [0, 1, 5]
def R_count_Rename_1 : AC := .ops false [⟨some 14, .load 1 true (.t 3), none, []⟩,
  ⟨some 15, .call (.fn 22) [.t 14], none, []⟩,
  ⟨some 16, .un .not (.t 15), none, []⟩,
  ⟨some 17, .mov (.t 16), none, []⟩,
  ⟨some 18, .load 3 false (.t 2), some (17, false), []⟩,
  ⟨some 19, .load 1 true (.t 3), some (17, false), []⟩,
  ⟨some 20, .len (.t 19), some (17, false), []⟩,
  ⟨some 21, .call (.fn 23) [.t 18, .t 20], some (17, false), []⟩,
  ⟨some 22, .un .not (.t 21), some (17, false), []⟩,
  ⟨some 23, .pick (.t 17) (.c (.bool true)) (.t 22), none, []⟩] [14, 15, 16, 17, 18, 19, 20, 21, 22]
def R_count_Rename_2 : AC := .ops false [⟨some 24, .build [.lst 0 [] (some 0), .lst 0 [] (some 0), .lst 0 [] (some 0)] [], none, []⟩,
  ⟨none, .store 3 (.t 4) (.t 24), none, []⟩,
  ⟨some 5, .mov (.c (.int .i64 2)), none, []⟩] [2, 3, 23, 24]
def R_count_Rename_3 : AC := .ops false [⟨some 25, .load 3 false (.t 2), none, []⟩,
  ⟨some 26, .call (.fn 24) [.t 25], none, []⟩,
  ⟨some 6, .alloc [.lst 0 [] (some 0), .lst 0 [] (some 0), .lst 0 [] (some 0)], none, []⟩,
  ⟨none, .store 3 (.t 6) (.t 26), none, []⟩] [23, 25, 26]
def R_count_Rename_4 : AC := .ops false [⟨some 27, .mkfn 25 [] [.t 3], none, []⟩,
  ⟨some 7, .mov (.t 27), none, []⟩] [27]
def R_count_Rename_5 : AC := .ops false [⟨some 28, .mov (.t 7), none, []⟩,
  ⟨some 29, .fa (.t 6) 0, none, []⟩,
  ⟨some 30, .load 1 true (.t 29), none, []⟩,
  ⟨some 31, .call (.dyn (.t 28)) [.t 30], none, []⟩] [28, 29, 30, 31]
def R_count_Rename_6 : AC := .ops false [⟨some 32, .fa (.t 6) 1, none, []⟩,
  ⟨some 33, .load 1 true (.t 32), none, []⟩,
  ⟨some 34, .len (.t 33), none, []⟩,
  ⟨some 35, .mov (.c (.int .i64 0)), none, []⟩] [32, 33]
def R_count_Rename_7 : AC := .ops false [⟨some 36, .bin .lss (.t 35) (.t 34), none, []⟩] []
def R_count_Rename_8 : AC := .ops false [⟨some 37, .mov (.t 35), none, []⟩,
  ⟨some 8, .mov (.t 37), none, []⟩] [36, 37]
def R_count_Rename_9 : AC := .ops false [⟨some 38, .fa (.t 6) 1, none, []⟩,
  ⟨some 39, .load 1 true (.t 38), none, []⟩,
  ⟨some 40, .mov (.t 8), none, []⟩,
  ⟨some 41, .ia 6 (.t 39) (.t 40), none, []⟩,
  ⟨some 9, .mov (.t 41), none, []⟩] [38, 39, 40, 41]
def R_count_Rename_10 : AC := .ops false [⟨some 42, .mov (.t 7), none, []⟩,
  ⟨some 43, .mov (.t 9), none, []⟩,
  ⟨some 44, .nilchk (.t 43), none, []⟩,
  ⟨some 45, .fa (.t 44) 4, none, []⟩,
  ⟨some 46, .load 1 true (.t 45), none, []⟩,
  ⟨some 47, .call (.dyn (.t 42)) [.t 46], none, []⟩] [42, 43, 44, 45, 46, 47]
def R_count_Rename_11 : AC := .ops false [⟨some 48, .mov (.t 7), none, []⟩,
  ⟨some 49, .mov (.t 9), none, []⟩,
  ⟨some 50, .nilchk (.t 49), none, []⟩,
  ⟨some 51, .fa (.t 50) 5, none, []⟩,
  ⟨some 52, .load 1 true (.t 51), none, []⟩,
  ⟨some 53, .call (.dyn (.t 48)) [.t 52], none, []⟩] [48, 49, 50, 51, 52, 53]
def R_count_Rename_12 : AC := .ops false [⟨some 54, .fa (.t 2) 1, none, []⟩,
  ⟨some 55, .load 1 true (.t 54), none, []⟩,
  ⟨some 56, .mov (.t 8), none, []⟩,
  ⟨some 57, .ia 6 (.t 55) (.t 56), none, []⟩,
  ⟨some 58, .fa (.t 57) 0, none, []⟩,
  ⟨some 59, .load 1 true (.t 58), none, []⟩,
  ⟨some 60, .call (.fn 26) [.t 59], none, []⟩,
  ⟨some 61, .len (.t 60), none, []⟩,
  ⟨some 62, .mov (.c (.int .i64 0)), none, []⟩] [8, 54, 55, 56, 57, 58, 59]
def R_count_Rename_13 : AC := .ops false [⟨some 63, .bin .lss (.t 62) (.t 61), none, []⟩] []
def R_count_Rename_14 : AC := .ops false [⟨some 64, .mov (.t 62), none, []⟩,
  ⟨some 65, .ia 3 (.t 60) (.t 62), none, []⟩,
  ⟨some 66, .load 3 false (.t 65), none, []⟩,
  ⟨some 11, .alloc [.bool false, .lst 0 [] (some 0), .lst 0 [] (some 0)], none, []⟩,
  ⟨some 10, .mov (.t 64), none, []⟩,
  ⟨none, .store 3 (.t 11) (.t 66), none, []⟩] [63, 64, 65, 66]
def R_count_Rename_15 : AC := .ops true [⟨some 67, .mov (.t 9), none, []⟩,
  ⟨some 68, .nilchk (.t 67), none, [0]⟩,
  ⟨some 69, .fa (.t 68) 0, none, [1]⟩,
  ⟨some 70, .load 1 true (.t 69), none, [2]⟩,
  ⟨some 71, .load 1 true (.t 3), none, []⟩,
  ⟨some 72, .mov (.t 10), none, []⟩,
  ⟨some 73, .ia 1 (.t 71) (.t 72), none, [4, 5]⟩,
  ⟨some 74, .load 1 true (.t 73), none, [6]⟩,
  ⟨some 75, .load 3 false (.t 11), none, []⟩,
  ⟨some 76, .ia 3 (.t 70) (.t 74), none, [3, 7, 0, 1, 2, 3, 4, 5, 6, 7, 8]⟩,
  ⟨none, .store 3 (.t 76) (.t 75), none, [9, 8, 0, 1, 2, 3, 4, 5, 6, 7, 8]⟩] [10, 11, 67, 68, 69, 70, 71, 72, 73, 74, 75, 76]
def R_count_Rename_16 : AC := .ops false [⟨some 77, .bin .add (.t 62) (.c (.int .i64 1)), none, []⟩,
  ⟨some 62, .mov (.t 77), none, []⟩] [77]
def L_count_Rename_1 : AC := (.seq R_count_Rename_13 (.seq (.cond (.t 63) .skip (.exit 2)) (.seq (.block 3 (.seq R_count_Rename_14 R_count_Rename_15)) R_count_Rename_16)))
def R_count_Rename_17 : AC := .ops false [⟨some 78, .bin .add (.t 35) (.c (.int .i64 1)), none, []⟩,
  ⟨some 35, .mov (.t 78), none, []⟩] [9, 60, 61, 62, 63, 78]
def L_count_Rename_2 : AC := (.seq R_count_Rename_7 (.seq (.cond (.t 36) .skip (.exit 0)) (.seq (.block 1 (.seq R_count_Rename_8 (.seq R_count_Rename_9 (.seq R_count_Rename_10 (.seq R_count_Rename_11 (.seq R_count_Rename_12 (.block 2 (.loop L_count_Rename_1)))))))) R_count_Rename_17)))
def R_count_Rename_18 : AC := .ops false [⟨some 79, .fa (.t 6) 2, none, []⟩,
  ⟨some 80, .load 1 true (.t 79), none, []⟩,
  ⟨some 81, .len (.t 80), none, []⟩,
  ⟨some 82, .mov (.c (.int .i64 0)), none, []⟩] [2, 34, 35, 36, 79, 80]
def R_count_Rename_19 : AC := .ops false [⟨some 83, .bin .lss (.t 82) (.t 81), none, []⟩] []
def R_count_Rename_20 : AC := .ops false [⟨some 84, .mov (.t 82), none, []⟩,
  ⟨some 12, .mov (.t 84), none, []⟩] [83, 84]
def R_count_Rename_21 : AC := .ops false [⟨some 85, .fa (.t 6) 2, none, []⟩,
  ⟨some 86, .load 1 true (.t 85), none, []⟩,
  ⟨some 87, .mov (.t 12), none, []⟩,
  ⟨some 88, .ia 2 (.t 86) (.t 87), none, []⟩,
  ⟨some 13, .mov (.t 88), none, []⟩] [12, 85, 86, 87, 88]
def R_count_Rename_22 : AC := .ops false [⟨some 89, .mov (.t 7), none, []⟩,
  ⟨some 90, .mov (.t 13), none, []⟩,
  ⟨some 91, .nilchk (.t 90), none, []⟩,
  ⟨some 92, .fa (.t 91) 0, none, []⟩,
  ⟨some 93, .load 1 true (.t 92), none, []⟩,
  ⟨some 94, .call (.dyn (.t 89)) [.t 93], none, []⟩] [89, 90, 91, 92, 93, 94]
def R_count_Rename_23 : AC := .ops false [⟨some 95, .mov (.t 13), none, []⟩,
  ⟨some 96, .nilchk (.t 95), none, []⟩,
  ⟨some 97, .fa (.t 96) 0, none, []⟩,
  ⟨some 98, .load 1 true (.t 97), none, []⟩,
  ⟨some 99, .call (.fn 27) [.t 98], none, []⟩] [95, 96, 97, 98, 99]
def R_count_Rename_24 : AC := .ops true [⟨some 100, .mov (.t 13), none, []⟩,
  ⟨some 101, .load 1 true (.t 3), none, []⟩,
  ⟨some 102, .mov (.t 13), none, []⟩,
  ⟨some 103, .nilchk (.t 102), none, [2]⟩,
  ⟨some 104, .fa (.t 103) 1, none, [3]⟩,
  ⟨some 105, .load 1 true (.t 104), none, [4]⟩,
  ⟨some 106, .ia 1 (.t 101) (.t 105), none, [1, 5]⟩,
  ⟨some 107, .load 1 true (.t 106), none, [6]⟩,
  ⟨some 108, .nilchk (.t 100), none, [0, 0, 1, 2, 3, 4, 5, 6, 7]⟩,
  ⟨some 109, .fa (.t 108) 1, none, [8, 0, 1, 2, 3, 4, 5, 6, 7]⟩,
  ⟨none, .store 1 (.t 109) (.t 107), none, [9, 7, 0, 1, 2, 3, 4, 5, 6, 7]⟩] [13, 100, 101, 102, 103, 104, 105, 106, 107, 108, 109]
def R_count_Rename_25 : AC := .ops false [⟨some 110, .bin .add (.t 82) (.c (.int .i64 1)), none, []⟩,
  ⟨some 82, .mov (.t 110), none, []⟩] [110]
def L_count_Rename_3 : AC := (.seq R_count_Rename_19 (.seq (.cond (.t 83) .skip (.exit 4)) (.seq (.block 5 (.seq R_count_Rename_20 (.seq R_count_Rename_21 (.seq R_count_Rename_22 (.seq R_count_Rename_23 R_count_Rename_24))))) R_count_Rename_25)))
def R_count_Rename_26 : AC := .ops false [⟨some 111, .load 3 false (.t 6), none, []⟩,
  ⟨none, .store 3 (.t 4) (.t 111), none, []⟩,
  ⟨some 5, .mov (.c (.int .i64 0)), none, []⟩] [3, 6, 7, 81, 82, 83, 111]
def F_count_Rename : AFunc := { ntmps := 112, nargs := 2, kills := [[0, 1, 5], [14, 15, 16, 17, 18, 19, 20, 21, 22], [2, 3, 23, 24], [23, 25, 26], [27], [28, 29, 30, 31], [32, 33], [], [36, 37], [38, 39, 40, 41], [42, 43, 44, 45, 46, 47], [48, 49, 50, 51, 52, 53], [8, 54, 55, 56, 57, 58, 59], [], [63, 64, 65, 66], [10, 11, 67, 68, 69, 70, 71, 72, 73, 74, 75, 76], [77], [9, 60, 61, 62, 63, 78], [2, 34, 35, 36, 79, 80], [], [83, 84], [12, 85, 86, 87, 88], [89, 90, 91, 92, 93, 94], [95, 96, 97, 98, 99], [13, 100, 101, 102, 103, 104, 105, 106, 107, 108, 109], [110], [3, 6, 7, 81, 82, 83, 111]], results := [.cell 4 3 false, .t 5], body := (.seq R_count_Rename_0 (.seq (.seq R_count_Rename_1 (.cond (.t 23) (.seq R_count_Rename_2 .ret) .skip)) (.seq R_count_Rename_3 (.seq R_count_Rename_4 (.seq R_count_Rename_5 (.seq (.seq R_count_Rename_6 (.block 0 (.loop L_count_Rename_2))) (.seq (.seq R_count_Rename_18 (.block 4 (.loop L_count_Rename_3))) (.seq R_count_Rename_26 .ret)))))))) }
abbrev k_count_Rename : Nat := 8
-- suffrage/suffragelaw22.alive
def R_suffragelaw22_alive_0 : AC := .ops false [⟨some 0, .mov (.c (.bool false)), none, []⟩] [0]
def R_suffragelaw22_alive_1 : AC := .ops false [⟨some 1, .mov (.c (.int .u8 5)), none, []⟩] []
def R_suffragelaw22_alive_2 : AC := .ops false [⟨some 8, .mov (.t 1), none, []⟩,
  ⟨some 9, .bin .leq (.t 8) (.c (.int .u8 10)), none, []⟩] [8]
def R_suffragelaw22_alive_4 : AC := .ops false [⟨some 13, .mov (.t 1), none, []⟩,
  ⟨some 14, .call (.fn 5) [.t 13], none, []⟩,
  ⟨some 12, .mov (.t 14), none, []⟩,
  ⟨some 15, .ext (.t 12) 0, none, []⟩,
  ⟨some 16, .ext (.t 12) 1, none, []⟩,
  ⟨some 2, .alloc [.str [], .lst 0 [] (some 0), .int .i64 0, .int .u8 0], none, []⟩,
  ⟨some 3, .alloc [.int .i64 0, .int .u8 0, .lst 0 [] (some 0)], none, []⟩,
  ⟨none, .store 4 (.t 2) (.t 15), none, []⟩,
  ⟨none, .store 3 (.t 3) (.t 16), none, []⟩] [9, 12, 13, 14, 15, 16]
def R_suffragelaw22_alive_5 : AC := .ops false [⟨some 18, .load 4 false (.t 2), none, []⟩,
  ⟨some 19, .load 3 false (.t 3), none, []⟩,
  ⟨some 20, .bslice 1 [.int .i64 0] 2 [(0, .c (.int .i64 0)), (1, .c (.int .i64 1))], none, []⟩,
  ⟨some 21, .call (.fn 6) [.t 18, .t 19, .t 20], none, []⟩,
  ⟨some 17, .mov (.t 21), none, []⟩,
  ⟨some 22, .ext (.t 17) 0, none, []⟩,
  ⟨some 23, .ext (.t 17) 1, none, []⟩,
  ⟨some 4, .alloc [.lst 0 [] (some 0), .lst 0 [] (some 0), .lst 0 [] (some 0)], none, []⟩,
  ⟨none, .store 3 (.t 4) (.t 22), none, []⟩,
  ⟨some 5, .mov (.t 23), none, []⟩] [2, 3, 17, 18, 19, 20, 21, 22, 23]
def R_suffragelaw22_alive_6 : AC := .ops false [⟨some 25, .load 3 false (.t 4), none, []⟩,
  ⟨some 26, .bslice 1 [.int .i64 0] 2 [(0, .c (.int .i64 1)), (1, .c (.int .i64 0))], none, []⟩,
  ⟨some 27, .call (.fn 8) [.t 25, .t 26], none, []⟩,
  ⟨some 24, .mov (.t 27), none, []⟩,
  ⟨some 28, .ext (.t 24) 0, none, []⟩,
  ⟨some 29, .ext (.t 24) 1, none, []⟩,
  ⟨some 6, .alloc [.lst 0 [] (some 0), .lst 0 [] (some 0), .lst 0 [] (some 0)], none, []⟩,
  ⟨none, .store 3 (.t 6) (.t 28), none, []⟩,
  ⟨some 7, .mov (.t 29), none, []⟩] [24, 25, 26, 27, 28, 29]
def R_suffragelaw22_alive_7 : AC := .ops false [⟨some 30, .mov (.t 5), none, []⟩,
  ⟨some 31, .bin .neq (.t 30) (.c (.int .i64 0)), none, []⟩,
  ⟨some 32, .mov (.t 31), none, []⟩,
  ⟨some 33, .fa (.t 4) 0, some (32, false), []⟩,
  ⟨some 34, .load 1 true (.t 33), some (32, false), []⟩,
  ⟨some 35, .bslice 1 [.int .i64 0] 1 [(0, .c (.int .i64 0))], some (32, false), []⟩,
  ⟨some 36, .call (.fn 10) [.t 34, .t 35], some (32, false), []⟩,
  ⟨some 37, .un .not (.t 36), some (32, false), []⟩,
  ⟨some 38, .pick (.t 32) (.c (.bool true)) (.t 37), none, []⟩,
  ⟨some 39, .mov (.t 38), none, []⟩,
  ⟨some 40, .mov (.t 7), some (39, false), []⟩,
  ⟨some 41, .bin .neq (.t 40) (.c (.int .i64 0)), some (39, false), []⟩,
  ⟨some 42, .pick (.t 39) (.c (.bool true)) (.t 41), none, []⟩,
  ⟨some 43, .mov (.t 42), none, []⟩,
  ⟨some 44, .fa (.t 6) 0, some (43, false), []⟩,
  ⟨some 45, .load 1 true (.t 44), some (43, false), []⟩,
  ⟨some 46, .bslice 1 [.int .i64 0] 1 [(0, .c (.int .i64 1))], some (43, false), []⟩,
  ⟨some 47, .call (.fn 10) [.t 45, .t 46], some (43, false), []⟩,
  ⟨some 48, .un .not (.t 47), some (43, false), []⟩,
  ⟨some 49, .pick (.t 43) (.c (.bool true)) (.t 48), none, []⟩] [4, 5, 6, 7, 30, 31, 32, 33, 34, 35, 36, 37, 38, 39, 40, 41, 42, 43, 44, 45, 46, 47, 48]
def R_suffragelaw22_alive_8 : AC := .ops false [⟨some 0, .mov (.c (.bool false)), none, []⟩] [1, 49]
def R_suffragelaw22_alive_3 : AC := .ops false [⟨some 10, .mov (.t 1), none, []⟩,
  ⟨some 11, .bin .add (.t 10) (.c (.int .u8 1)), none, []⟩,
  ⟨some 1, .mov (.t 11), none, []⟩] [10, 11, 49]
def L_suffragelaw22_alive_1 : AC := (.seq (.seq R_suffragelaw22_alive_2 (.cond (.t 9) .skip (.exit 0))) (.seq (.block 1 (.seq R_suffragelaw22_alive_4 (.seq R_suffragelaw22_alive_5 (.seq R_suffragelaw22_alive_6 (.seq R_suffragelaw22_alive_7 (.cond (.t 49) (.seq R_suffragelaw22_alive_8 .ret) .skip)))))) R_suffragelaw22_alive_3))
def R_suffragelaw22_alive_9 : AC := .ops false [⟨some 0, .mov (.c (.bool true)), none, []⟩] [1, 9]
def F_suffragelaw22_alive : AFunc := { ntmps := 50, nargs := 0, kills := [[0], [], [8], [10, 11, 49], [9, 12, 13, 14, 15, 16], [2, 3, 17, 18, 19, 20, 21, 22, 23], [24, 25, 26, 27, 28, 29], [4, 5, 6, 7, 30, 31, 32, 33, 34, 35, 36, 37, 38, 39, 40, 41, 42, 43, 44, 45, 46, 47, 48], [1, 49], [1, 9]], results := [.t 0], body := (.seq R_suffragelaw22_alive_0 (.seq (.seq R_suffragelaw22_alive_1 (.block 0 (.loop L_suffragelaw22_alive_1))) (.seq R_suffragelaw22_alive_9 .ret))) }
abbrev k_suffragelaw22_alive : Nat := 9
-- suffrage/suffrageref08.Ints
def R_suffrageref08_Ints_0 : AC := .ops false [⟨some 4, .mov (.c (.bool false)), none, []⟩] [4]
def R_suffrageref08_Ints_1 : AC := .ops false [⟨some 6, .mov (.t 0), none, []⟩,
  ⟨some 7, .len (.t 6), none, []⟩,
  ⟨some 8, .mov (.t 1), none, []⟩,
  ⟨some 9, .len (.t 8), none, []⟩,
  ⟨some 10, .bin .neq (.t 7) (.t 9), none, []⟩] [6, 7, 8, 9]
def R_suffrageref08_Ints_2 : AC := .ops false [⟨some 4, .mov (.c (.bool false)), none, []⟩] [0, 1, 10]
def R_suffrageref08_Ints_3 : AC := .ops false [⟨some 5, .mov (.c (.int .i64 0)), none, []⟩] [10]
def R_suffrageref08_Ints_4 : AC := .ops false [⟨some 11, .mov (.t 5), none, []⟩,
  ⟨some 12, .mov (.t 0), none, []⟩,
  ⟨some 13, .len (.t 12), none, []⟩,
  ⟨some 14, .bin .lss (.t 11) (.t 13), none, []⟩] [11, 12, 13]
def R_suffrageref08_Ints_6 : AC := .ops true [⟨some 17, .mov (.t 0), none, []⟩,
  ⟨some 18, .mov (.t 5), none, []⟩,
  ⟨some 19, .ia 1 (.t 17) (.t 18), none, [0, 1]⟩,
  ⟨some 20, .load 1 true (.t 19), none, [2]⟩,
  ⟨some 21, .mov (.t 1), none, []⟩,
  ⟨some 22, .mov (.t 5), none, []⟩,
  ⟨some 23, .ia 1 (.t 21) (.t 22), none, [4, 5]⟩,
  ⟨some 24, .load 1 true (.t 23), none, [6]⟩,
  ⟨some 25, .bin .neq (.t 20) (.t 24), none, [3, 7]⟩] [14, 17, 18, 19, 20, 21, 22, 23, 24]
def R_suffrageref08_Ints_7 : AC := .ops false [⟨some 4, .mov (.c (.bool false)), none, []⟩] [0, 1, 5, 25]
def R_suffrageref08_Ints_5 : AC := .ops false [⟨some 15, .mov (.t 5), none, []⟩,
  ⟨some 16, .bin .add (.t 15) (.c (.int .i64 1)), none, []⟩,
  ⟨some 5, .mov (.t 16), none, []⟩] [15, 16, 25]
def L_suffrageref08_Ints_1 : AC := (.seq (.seq R_suffrageref08_Ints_4 (.cond (.t 14) .skip (.exit 0))) (.seq (.block 1 (.seq R_suffrageref08_Ints_6 (.cond (.t 25) (.seq R_suffrageref08_Ints_7 .ret) .skip))) R_suffrageref08_Ints_5))
def R_suffrageref08_Ints_8 : AC := .ops false [⟨some 4, .mov (.c (.bool true)), none, []⟩] [0, 1, 5, 14]
def F_suffrageref08_Ints : AFunc := { ntmps := 26, nargs := 2, kills := [[4], [6, 7, 8, 9], [0, 1, 10], [10], [11, 12, 13], [15, 16, 25], [14, 17, 18, 19, 20, 21, 22, 23, 24], [0, 1, 5, 25], [0, 1, 5, 14]], results := [.t 4], body := (.seq R_suffrageref08_Ints_0 (.seq (.seq R_suffrageref08_Ints_1 (.cond (.t 10) (.seq R_suffrageref08_Ints_2 .ret) .skip)) (.seq (.seq R_suffrageref08_Ints_3 (.block 0 (.loop L_suffrageref08_Ints_1))) (.seq R_suffrageref08_Ints_8 .ret)))) }
abbrev k_suffrageref08_Ints : Nat := 10
-- suffrage/suffrageref11.Same
def R_suffrageref11_Same_0 : AC := .ops false [⟨some 2, .box (.t 0), none, []⟩,
  ⟨some 3, .box (.t 1), none, []⟩,
  ⟨some 4, .mov (.c (.bool false)), none, []⟩] [0, 1, 4]
def R_suffrageref11_Same_1 : AC := .ops false [⟨some 5, .fa (.t 2) 0, none, []⟩,
  ⟨some 6, .load 1 true (.t 5), none, []⟩,
  ⟨some 7, .fa (.t 3) 0, none, []⟩,
  ⟨some 8, .load 1 true (.t 7), none, []⟩,
  ⟨some 9, .call (.fn 10) [.t 6, .t 8], none, []⟩,
  ⟨some 10, .mov (.t 9), none, []⟩,
  ⟨some 11, .fa (.t 2) 1, some (10, true), []⟩,
  ⟨some 12, .load 1 true (.t 11), some (10, true), []⟩,
  ⟨some 13, .fa (.t 3) 1, some (10, true), []⟩,
  ⟨some 14, .load 1 true (.t 13), some (10, true), []⟩,
  ⟨some 15, .call (.fn 28) [.t 12, .t 14], some (10, true), []⟩,
  ⟨some 16, .pick (.t 10) (.t 15) (.c (.bool false)), none, []⟩,
  ⟨some 17, .mov (.t 16), none, []⟩,
  ⟨some 18, .fa (.t 2) 2, some (17, true), []⟩,
  ⟨some 19, .load 1 true (.t 18), some (17, true), []⟩,
  ⟨some 20, .fa (.t 3) 2, some (17, true), []⟩,
  ⟨some 21, .load 1 true (.t 20), some (17, true), []⟩,
  ⟨some 22, .call (.fn 29) [.t 19, .t 21], some (17, true), []⟩,
  ⟨some 23, .pick (.t 17) (.t 22) (.c (.bool false)), none, []⟩,
  ⟨some 4, .mov (.t 23), none, []⟩] [2, 3, 5, 6, 7, 8, 9, 10, 11, 12, 13, 14, 15, 16, 17, 18, 19, 20, 21, 22, 23]
def F_suffrageref11_Same : AFunc := { ntmps := 24, nargs := 2, kills := [[0, 1, 4], [2, 3, 5, 6, 7, 8, 9, 10, 11, 12, 13, 14, 15, 16, 17, 18, 19, 20, 21, 22, 23]], results := [.t 4], body := (.seq R_suffrageref11_Same_0 (.seq R_suffrageref11_Same_1 .ret)) }
abbrev k_suffrageref11_Same : Nat := 11
-- suffrage/contest.Check
def R_contest_Check_0 : AC := .ops false [⟨some 1, .box (.t 0), none, []⟩,
  ⟨some 2, .mov (.c (.int .i64 0)), none, []⟩] [0, 2]
def R_contest_Check_1 : AC := .ops false [⟨some 3, .fa (.t 1) 1, none, []⟩,
  ⟨some 4, .load 1 true (.t 3), none, []⟩,
  ⟨some 5, .len (.t 4), none, []⟩,
  ⟨some 6, .bin .gtr (.t 5) (.c (.int .i64 10)), none, []⟩] [3, 4, 5]
def R_contest_Check_2 : AC := .ops false [⟨some 2, .mov (.c (.int .i64 4)), none, []⟩] [1, 6]
def R_contest_Check_3 : AC := .ops false [⟨some 7, .fa (.t 1) 1, none, []⟩,
  ⟨some 8, .load 1 true (.t 7), none, []⟩,
  ⟨some 9, .len (.t 8), none, []⟩,
  ⟨some 10, .bin .eql (.t 9) (.c (.int .i64 0)), none, []⟩,
  ⟨some 11, .mov (.t 10), none, []⟩,
  ⟨some 12, .fa (.t 1) 0, some (11, false), []⟩,
  ⟨some 13, .load 1 true (.t 12), some (11, false), []⟩,
  ⟨some 14, .bslice 1 [.str []] 1 [(0, .t 13)], some (11, false), []⟩,
  ⟨some 15, .call (.fn 37) [.t 14], some (11, false), []⟩,
  ⟨some 16, .pick (.t 11) (.c (.bool true)) (.t 15), none, []⟩,
  ⟨some 17, .mov (.t 16), none, []⟩,
  ⟨some 18, .fa (.t 1) 1, some (17, false), []⟩,
  ⟨some 19, .load 1 true (.t 18), some (17, false), []⟩,
  ⟨some 20, .call (.fn 37) [.t 19], some (17, false), []⟩,
  ⟨some 21, .pick (.t 17) (.c (.bool true)) (.t 20), none, []⟩,
  ⟨some 22, .mov (.t 21), none, []⟩,
  ⟨some 23, .fa (.t 1) 1, some (22, false), []⟩,
  ⟨some 24, .load 1 true (.t 23), some (22, false), []⟩,
  ⟨some 25, .call (.fn 38) [.t 24], some (22, false), []⟩,
  ⟨some 26, .pick (.t 22) (.c (.bool true)) (.t 25), none, []⟩,
  ⟨some 27, .mov (.t 26), none, []⟩,
  ⟨some 28, .load 4 false (.t 1), some (27, false), []⟩,
  ⟨some 29, .call (.fn 39) [.t 28], some (27, false), []⟩,
  ⟨some 30, .un .not (.t 29), some (27, false), []⟩,
  ⟨some 31, .pick (.t 27) (.c (.bool true)) (.t 30), none, []⟩] [1, 6, 7, 8, 9, 10, 11, 12, 13, 14, 15, 16, 17, 18, 19, 20, 21, 22, 23, 24, 25, 26, 27, 28, 29, 30]
def R_contest_Check_4 : AC := .ops false [⟨some 2, .mov (.c (.int .i64 8)), none, []⟩] [31]
def R_contest_Check_5 : AC := .ops false [⟨some 2, .mov (.c (.int .i64 0)), none, []⟩] [31]
def F_contest_Check : AFunc := { ntmps := 32, nargs := 1, kills := [[0, 2], [3, 4, 5], [1, 6], [1, 6, 7, 8, 9, 10, 11, 12, 13, 14, 15, 16, 17, 18, 19, 20, 21, 22, 23, 24, 25, 26, 27, 28, 29, 30], [31], [31]], results := [.t 2], body := (.seq R_contest_Check_0 (.seq (.seq R_contest_Check_1 (.cond (.t 6) (.seq R_contest_Check_2 .ret) .skip)) (.seq (.seq R_contest_Check_3 (.cond (.t 31) (.seq R_contest_Check_4 .ret) .skip)) (.seq R_contest_Check_5 .ret)))) }
abbrev k_contest_Check : Nat := 18
-- suffrage/profile.Check
def R_profile_Check_0 : AC := .ops false [⟨some 1, .box (.t 0), none, []⟩,
  ⟨some 2, .mov (.c (.int .i64 0)), none, []⟩] [0, 2]
def R_profile_Check_1 : AC := .ops false [⟨some 8, .fa (.t 1) 2, none, []⟩,
  ⟨some 9, .load 1 true (.t 8), none, []⟩,
  ⟨some 10, .len (.t 9), none, []⟩,
  ⟨some 11, .bin .gtr (.t 10) (.c (.int .i64 64)), none, []⟩] [8, 9, 10]
def R_profile_Check_2 : AC := .ops false [⟨some 2, .mov (.c (.int .i64 9)), none, []⟩] [1, 11]
def R_profile_Check_3 : AC := .ops false [⟨some 3, .alloc [.int .i64 0], none, []⟩,
  ⟨some 4, .alloc [.bool false], none, []⟩,
  ⟨none, .store 1 (.t 3) (.c (.int .i64 0)), none, []⟩,
  ⟨none, .store 1 (.t 4) (.c (.bool true)), none, []⟩] [11]
def R_profile_Check_4 : AC := .ops false [⟨some 12, .fa (.t 1) 2, none, []⟩,
  ⟨some 13, .load 1 true (.t 12), none, []⟩,
  ⟨some 14, .mkfn 41 [] [.t 4, .t 3, .t 1], none, []⟩,
  ⟨some 15, .call (.fn 40) [.t 13, .t 14], none, []⟩,
  ⟨some 5, .mov (.t 15), none, []⟩] [4, 12, 13, 14, 15]
def R_profile_Check_5 : AC := .ops false [⟨some 17, .fa (.t 1) 0, none, []⟩,
  ⟨some 18, .load 1 true (.t 17), none, []⟩,
  ⟨some 19, .fa (.t 1) 1, none, []⟩,
  ⟨some 20, .load 1 true (.t 19), none, []⟩,
  ⟨some 21, .call (.fn 45) [.t 18, .t 20], none, []⟩,
  ⟨some 16, .mov (.t 21), none, []⟩,
  ⟨some 22, .ext (.t 16) 0, none, []⟩,
  ⟨some 23, .ext (.t 16) 1, none, []⟩,
  ⟨some 6, .alloc [.int .i64 0, .int .u8 0, .lst 0 [] (some 0)], none, []⟩,
  ⟨none, .store 3 (.t 6) (.t 22), none, []⟩,
  ⟨some 7, .mov (.t 23), none, []⟩] [1, 6, 16, 17, 18, 19, 20, 21, 22, 23]
def R_profile_Check_6 : AC := .ops false [⟨some 25, .mov (.t 5), none, []⟩,
  ⟨some 26, .un .not (.t 25), none, []⟩,
  ⟨some 27, .mov (.t 26), none, []⟩,
  ⟨some 28, .mov (.t 7), some (27, false), []⟩,
  ⟨some 29, .bin .neq (.t 28) (.c (.int .i64 0)), some (27, false), []⟩,
  ⟨some 30, .pick (.t 27) (.c (.bool true)) (.t 29), none, []⟩,
  ⟨some 24, .mov (.t 30), none, []⟩] [5, 7, 25, 26, 27, 28, 29, 30]
def R_profile_Check_7 : AC := .ops false [⟨some 2, .mov (.c (.int .i64 8)), none, []⟩] [3, 24]
def R_profile_Check_8 : AC := .ops false [⟨some 32, .load 1 true (.t 3), none, []⟩,
  ⟨some 33, .bin .gtr (.t 32) (.c (.int .i64 1000000)), none, []⟩,
  ⟨some 31, .mov (.t 33), none, []⟩] [3, 24, 32, 33]
def R_profile_Check_9 : AC := .ops false [⟨some 2, .mov (.c (.int .i64 4)), none, []⟩] [31]
def R_profile_Check_10 : AC := .ops false [⟨some 2, .mov (.c (.int .i64 0)), none, []⟩] [31]
def F_profile_Check : AFunc := { ntmps := 34, nargs := 1, kills := [[0, 2], [8, 9, 10], [1, 11], [11], [4, 12, 13, 14, 15], [1, 6, 16, 17, 18, 19, 20, 21, 22, 23], [5, 7, 25, 26, 27, 28, 29, 30], [3, 24], [3, 24, 32, 33], [31], [31]], results := [.t 2], body := (.seq R_profile_Check_0 (.seq (.seq R_profile_Check_1 (.cond (.t 11) (.seq R_profile_Check_2 .ret) .skip)) (.seq R_profile_Check_3 (.seq R_profile_Check_4 (.seq R_profile_Check_5 (.seq (.block 0 (.seq R_profile_Check_6 (.cond (.t 24) (.seq R_profile_Check_7 .ret) (.seq R_profile_Check_8 (.cond (.t 31) (.seq R_profile_Check_9 .ret) .skip))))) (.seq R_profile_Check_10 .ret))))))) }
abbrev k_profile_Check : Nat := 19
-- suffrage/contest.Kind
def R_contest_Kind_0 : AC := .ops false [⟨some 2, .mov (.c (.int .u8 0)), none, []⟩,
  ⟨some 3, .mov (.c (.int .i64 0)), none, []⟩] [2, 3]
def R_contest_Kind_1 : AC := .ops false [⟨some 4, .mov (.t 0), none, []⟩,
  ⟨some 5, .call (.fn 46) [.t 4], none, []⟩,
  ⟨some 6, .fld (.t 5) 2 1 true, none, []⟩,
  ⟨some 7, .bin .eql (.t 6) (.c (.int .i64 0)), none, []⟩] [4, 5, 6]
def R_contest_Kind_2 : AC := .ops false [⟨some 2, .mov (.c (.int .u8 0)), none, []⟩,
  ⟨some 3, .mov (.c (.int .i64 2)), none, []⟩] [0, 7]
def R_contest_Kind_3 : AC := .ops false [⟨some 8, .mov (.t 0), none, []⟩,
  ⟨some 9, .call (.fn 46) [.t 8], none, []⟩,
  ⟨some 10, .fld (.t 9) 1 1 true, none, []⟩,
  ⟨some 2, .mov (.t 10), none, []⟩,
  ⟨some 3, .mov (.c (.int .i64 0)), none, []⟩] [0, 7, 8, 9, 10]
def F_contest_Kind : AFunc := { ntmps := 11, nargs := 1, kills := [[2, 3], [4, 5, 6], [0, 7], [0, 7, 8, 9, 10]], results := [.t 2, .t 3], body := (.seq R_contest_Kind_0 (.seq (.seq R_contest_Kind_1 (.cond (.t 7) (.seq R_contest_Kind_2 .ret) .skip)) (.seq R_contest_Kind_3 .ret))) }
abbrev k_contest_Kind : Nat := 20
-- suffrage/count.rules
def R_count_rules_0 : AC := .ops false [⟨some 0, .mov (.c (.nilm)), none, []⟩] [0]
def R_count_rules_1 : AC := .ops false [⟨some 1, .mkmap none, none, []⟩,
  ⟨some 2, .build [.nilf] [(0, 1, .f 47)], none, []⟩,
  ⟨none, .mset 0 (.t 1) (.c (.int .u8 1)) (.t 2), none, []⟩,
  ⟨some 3, .build [.nilf] [(0, 1, .f 48)], none, []⟩,
  ⟨none, .mset 0 (.t 1) (.c (.int .u8 2)) (.t 3), none, []⟩,
  ⟨some 4, .build [.nilf] [(0, 1, .f 49)], none, []⟩,
  ⟨none, .mset 0 (.t 1) (.c (.int .u8 3)) (.t 4), none, []⟩,
  ⟨some 5, .build [.nilf] [(0, 1, .f 50)], none, []⟩,
  ⟨none, .mset 0 (.t 1) (.c (.int .u8 4)) (.t 5), none, []⟩,
  ⟨some 6, .build [.nilf] [(0, 1, .f 51)], none, []⟩,
  ⟨none, .mset 0 (.t 1) (.c (.int .u8 5)) (.t 6), none, []⟩,
  ⟨some 7, .build [.nilf] [(0, 1, .f 52)], none, []⟩,
  ⟨none, .mset 0 (.t 1) (.c (.int .u8 6)) (.t 7), none, []⟩,
  ⟨some 8, .build [.nilf] [(0, 1, .f 53)], none, []⟩,
  ⟨none, .mset 0 (.t 1) (.c (.int .u8 7)) (.t 8), none, []⟩,
  ⟨some 9, .build [.nilf] [(0, 1, .f 54)], none, []⟩,
  ⟨none, .mset 0 (.t 1) (.c (.int .u8 8)) (.t 9), none, []⟩,
  ⟨some 10, .build [.nilf] [(0, 1, .f 55)], none, []⟩,
  ⟨none, .mset 0 (.t 1) (.c (.int .u8 9)) (.t 10), none, []⟩,
  ⟨some 11, .build [.nilf] [(0, 1, .f 56)], none, []⟩,
  ⟨none, .mset 0 (.t 1) (.c (.int .u8 10)) (.t 11), none, []⟩,
  ⟨some 12, .build [.nilf] [(0, 1, .f 57)], none, []⟩,
  ⟨none, .mset 0 (.t 1) (.c (.int .u8 11)) (.t 12), none, []⟩,
  ⟨some 13, .build [.nilf] [(0, 1, .f 58)], none, []⟩,
  ⟨none, .mset 0 (.t 1) (.c (.int .u8 12)) (.t 13), none, []⟩,
  ⟨some 14, .build [.nilf] [(0, 1, .f 59)], none, []⟩,
  ⟨none, .mset 0 (.t 1) (.c (.int .u8 13)) (.t 14), none, []⟩,
  ⟨some 15, .build [.nilf] [(0, 1, .f 60)], none, []⟩,
  ⟨none, .mset 0 (.t 1) (.c (.int .u8 14)) (.t 15), none, []⟩,
  ⟨some 16, .build [.nilf] [(0, 1, .f 61)], none, []⟩,
  ⟨none, .mset 0 (.t 1) (.c (.int .u8 15)) (.t 16), none, []⟩,
  ⟨some 17, .build [.nilf] [(0, 1, .f 62)], none, []⟩,
  ⟨none, .mset 0 (.t 1) (.c (.int .u8 16)) (.t 17), none, []⟩,
  ⟨some 18, .mov (.t 1), none, []⟩,
  ⟨some 0, .mov (.t 18), none, []⟩] [1, 2, 3, 4, 5, 6, 7, 8, 9, 10, 11, 12, 13, 14, 15, 16, 17, 18]
def F_count_rules : AFunc := { ntmps := 19, nargs := 0, kills := [[0], [1, 2, 3, 4, 5, 6, 7, 8, 9, 10, 11, 12, 13, 14, 15, 16, 17, 18]], results := [.t 0], body := (.seq R_count_rules_0 (.seq R_count_rules_1 .ret)) }
abbrev k_count_rules : Nat := 21
-- suffrage/count.turns
def R_count_turns_0 : AC := .ops false [⟨some 2, .mov (.c (.bool false)), none, []⟩] [2]
def R_count_turns_1 : AC := .ops false [⟨some 6, .mov (.t 0), none, []⟩,
  ⟨some 7, .call (.fn 64) [.t 6], none, []⟩,
  ⟨some 8, .call (.fn 63) [.t 7], none, []⟩,
  ⟨some 3, .mov (.t 8), none, []⟩] [0, 6, 7, 8]
def R_count_turns_2 : AC := .ops false [⟨some 9, .mov (.t 3), none, []⟩,
  ⟨some 10, .len (.t 9), none, []⟩,
  ⟨some 11, .mov (.c (.int .i64 0)), none, []⟩] []
def R_count_turns_3 : AC := .ops false [⟨some 12, .bin .lss (.t 11) (.t 10), none, []⟩] []
def R_count_turns_4 : AC := .ops false [⟨some 13, .mov (.t 11), none, []⟩,
  ⟨some 14, .ia 1 (.t 9) (.t 11), none, []⟩,
  ⟨some 15, .load 1 true (.t 14), none, []⟩,
  ⟨some 4, .mov (.t 13), none, []⟩,
  ⟨some 5, .mov (.t 15), none, []⟩] [12, 13, 14, 15]
def R_count_turns_5 : AC := .ops false [⟨some 16, .mov (.t 5), none, []⟩,
  ⟨some 17, .mov (.t 4), none, []⟩,
  ⟨some 18, .bin .neq (.t 16) (.t 17), none, []⟩] [4, 5, 16, 17]
def R_count_turns_6 : AC := .ops false [⟨some 2, .mov (.c (.bool false)), none, []⟩] [3, 9, 10, 11, 18]
def R_count_turns_7 : AC := .ops false [⟨some 19, .bin .add (.t 11) (.c (.int .i64 1)), none, []⟩,
  ⟨some 11, .mov (.t 19), none, []⟩] [18, 19]
def L_count_turns_1 : AC := (.seq R_count_turns_3 (.seq (.cond (.t 12) .skip (.exit 0)) (.seq (.block 1 (.seq R_count_turns_4 (.seq R_count_turns_5 (.cond (.t 18) (.seq R_count_turns_6 .ret) .skip)))) R_count_turns_7)))
def R_count_turns_8 : AC := .ops false [⟨some 20, .mov (.t 3), none, []⟩,
  ⟨some 21, .len (.t 20), none, []⟩,
  ⟨some 22, .bin .geq (.t 21) (.c (.int .i64 1)), none, []⟩,
  ⟨some 23, .mov (.t 22), none, []⟩,
  ⟨some 24, .mov (.t 3), some (23, true), []⟩,
  ⟨some 25, .len (.t 24), some (23, true), []⟩,
  ⟨some 26, .bin .leq (.t 25) (.c (.int .i64 10)), some (23, true), []⟩,
  ⟨some 27, .pick (.t 23) (.t 26) (.c (.bool false)), none, []⟩,
  ⟨some 2, .mov (.t 27), none, []⟩] [3, 9, 10, 11, 12, 20, 21, 22, 23, 24, 25, 26, 27]
def F_count_turns : AFunc := { ntmps := 28, nargs := 1, kills := [[2], [0, 6, 7, 8], [], [], [12, 13, 14, 15], [4, 5, 16, 17], [3, 9, 10, 11, 18], [18, 19], [3, 9, 10, 11, 12, 20, 21, 22, 23, 24, 25, 26, 27]], results := [.t 2], body := (.seq R_count_turns_0 (.seq R_count_turns_1 (.seq (.seq R_count_turns_2 (.block 0 (.loop L_count_turns_1))) (.seq R_count_turns_8 .ret)))) }
abbrev k_count_turns : Nat := 22
-- suffrage/count.fits
def R_count_fits_0 : AC := .ops false [⟨some 2, .box (.t 0), none, []⟩,
  ⟨some 3, .box (.t 1), none, []⟩,
  ⟨some 4, .mov (.c (.bool false)), none, []⟩] [0, 1, 4]
def R_count_fits_1 : AC := .ops false [⟨some 10, .mkfn 65 [] [.t 3], none, []⟩,
  ⟨some 5, .mov (.t 10), none, []⟩] [10]
def R_count_fits_2 : AC := .ops false [⟨some 11, .mov (.t 5), none, []⟩,
  ⟨some 12, .fa (.t 2) 0, none, []⟩,
  ⟨some 13, .load 1 true (.t 12), none, []⟩,
  ⟨some 14, .call (.dyn (.t 11)) [.t 13], none, []⟩,
  ⟨some 15, .un .not (.t 14), none, []⟩] [11, 12, 13, 14]
def R_count_fits_3 : AC := .ops false [⟨some 4, .mov (.c (.bool false)), none, []⟩] [2, 3, 5, 15]
def R_count_fits_4 : AC := .ops false [⟨some 16, .fa (.t 2) 1, none, []⟩,
  ⟨some 17, .load 1 true (.t 16), none, []⟩,
  ⟨some 18, .len (.t 17), none, []⟩,
  ⟨some 19, .mov (.c (.int .i64 0)), none, []⟩] [15, 16]
def R_count_fits_5 : AC := .ops false [⟨some 20, .bin .lss (.t 19) (.t 18), none, []⟩] []
def R_count_fits_6 : AC := .ops false [⟨some 21, .ia 6 (.t 17) (.t 19), none, []⟩,
  ⟨some 22, .load 6 false (.t 21), none, []⟩,
  ⟨some 7, .alloc [.lst 0 [] (some 0), .bool false, .lst 0 [] (some 0), .lst 0 [] (some 0), .lst 0 [] (some 0), .lst 0 [] (some 0)], none, []⟩,
  ⟨none, .store 6 (.t 7) (.t 22), none, []⟩] [20, 21, 22]
def R_count_fits_7 : AC := .ops false [⟨some 23, .fa (.t 7) 0, none, []⟩,
  ⟨some 24, .load 1 true (.t 23), none, []⟩,
  ⟨some 25, .len (.t 24), none, []⟩,
  ⟨some 26, .load 1 true (.t 3), none, []⟩,
  ⟨some 27, .bin .neq (.t 25) (.t 26), none, []⟩,
  ⟨some 28, .mov (.t 27), none, []⟩,
  ⟨some 29, .mov (.t 5), some (28, false), []⟩,
  ⟨some 30, .fa (.t 7) 4, some (28, false), []⟩,
  ⟨some 31, .load 1 true (.t 30), some (28, false), []⟩,
  ⟨some 32, .call (.dyn (.t 29)) [.t 31], some (28, false), []⟩,
  ⟨some 33, .un .not (.t 32), some (28, false), []⟩,
  ⟨some 34, .pick (.t 28) (.c (.bool true)) (.t 33), none, []⟩,
  ⟨some 35, .mov (.t 34), none, []⟩,
  ⟨some 36, .mov (.t 5), some (35, false), []⟩,
  ⟨some 37, .fa (.t 7) 5, some (35, false), []⟩,
  ⟨some 38, .load 1 true (.t 37), some (35, false), []⟩,
  ⟨some 39, .call (.dyn (.t 36)) [.t 38], some (35, false), []⟩,
  ⟨some 40, .un .not (.t 39), some (35, false), []⟩,
  ⟨some 41, .pick (.t 35) (.c (.bool true)) (.t 40), none, []⟩] [7, 23, 24, 25, 26, 27, 28, 29, 30, 31, 32, 33, 34, 35, 36, 37, 38, 39, 40]
def R_count_fits_8 : AC := .ops false [⟨some 4, .mov (.c (.bool false)), none, []⟩] [2, 3, 5, 17, 18, 19, 41]
def R_count_fits_9 : AC := .ops false [⟨some 42, .bin .add (.t 19) (.c (.int .i64 1)), none, []⟩,
  ⟨some 19, .mov (.t 42), none, []⟩] [41, 42]
def L_count_fits_1 : AC := (.seq R_count_fits_5 (.seq (.cond (.t 20) .skip (.exit 0)) (.seq (.block 1 (.seq R_count_fits_6 (.seq R_count_fits_7 (.cond (.t 41) (.seq R_count_fits_8 .ret) .skip)))) R_count_fits_9)))
def R_count_fits_10 : AC := .ops false [⟨some 43, .fa (.t 2) 2, none, []⟩,
  ⟨some 44, .load 1 true (.t 43), none, []⟩,
  ⟨some 45, .len (.t 44), none, []⟩,
  ⟨some 46, .mov (.c (.int .i64 0)), none, []⟩] [2, 3, 17, 18, 19, 20, 43]
def R_count_fits_11 : AC := .ops false [⟨some 47, .bin .lss (.t 46) (.t 45), none, []⟩] []
def R_count_fits_12 : AC := .ops false [⟨some 48, .ia 2 (.t 44) (.t 46), none, []⟩,
  ⟨some 49, .load 2 false (.t 48), none, []⟩,
  ⟨some 9, .alloc [.lst 0 [] (some 0), .int .i64 0], none, []⟩,
  ⟨none, .store 2 (.t 9) (.t 49), none, []⟩] [47, 48, 49]
def R_count_fits_13 : AC := .ops false [⟨some 50, .mov (.t 5), none, []⟩,
  ⟨some 51, .fa (.t 9) 0, none, []⟩,
  ⟨some 52, .load 1 true (.t 51), none, []⟩,
  ⟨some 53, .call (.dyn (.t 50)) [.t 52], none, []⟩,
  ⟨some 54, .un .not (.t 53), none, []⟩,
  ⟨some 55, .mov (.t 54), none, []⟩,
  ⟨some 56, .mov (.t 5), some (55, false), []⟩,
  ⟨some 57, .fa (.t 9) 1, some (55, false), []⟩,
  ⟨some 58, .load 1 true (.t 57), some (55, false), []⟩,
  ⟨some 59, .bslice 1 [.int .i64 0] 1 [(0, .t 58)], some (55, false), []⟩,
  ⟨some 60, .call (.dyn (.t 56)) [.t 59], some (55, false), []⟩,
  ⟨some 61, .un .not (.t 60), some (55, false), []⟩,
  ⟨some 62, .pick (.t 55) (.c (.bool true)) (.t 61), none, []⟩] [9, 50, 51, 52, 53, 54, 55, 56, 57, 58, 59, 60, 61]
def R_count_fits_14 : AC := .ops false [⟨some 4, .mov (.c (.bool false)), none, []⟩] [5, 44, 45, 46, 62]
def R_count_fits_15 : AC := .ops false [⟨some 63, .bin .add (.t 46) (.c (.int .i64 1)), none, []⟩,
  ⟨some 46, .mov (.t 63), none, []⟩] [62, 63]
def L_count_fits_2 : AC := (.seq R_count_fits_11 (.seq (.cond (.t 47) .skip (.exit 2)) (.seq (.block 3 (.seq R_count_fits_12 (.seq R_count_fits_13 (.cond (.t 62) (.seq R_count_fits_14 .ret) .skip)))) R_count_fits_15)))
def R_count_fits_16 : AC := .ops false [⟨some 4, .mov (.c (.bool true)), none, []⟩] [5, 44, 45, 46, 47]
def F_count_fits : AFunc := { ntmps := 64, nargs := 2, kills := [[0, 1, 4], [10], [11, 12, 13, 14], [2, 3, 5, 15], [15, 16], [], [20, 21, 22], [7, 23, 24, 25, 26, 27, 28, 29, 30, 31, 32, 33, 34, 35, 36, 37, 38, 39, 40], [2, 3, 5, 17, 18, 19, 41], [41, 42], [2, 3, 17, 18, 19, 20, 43], [], [47, 48, 49], [9, 50, 51, 52, 53, 54, 55, 56, 57, 58, 59, 60, 61], [5, 44, 45, 46, 62], [62, 63], [5, 44, 45, 46, 47]], results := [.t 4], body := (.seq R_count_fits_0 (.seq R_count_fits_1 (.seq (.seq R_count_fits_2 (.cond (.t 15) (.seq R_count_fits_3 .ret) .skip)) (.seq (.seq R_count_fits_4 (.block 0 (.loop L_count_fits_1))) (.seq (.seq R_count_fits_10 (.block 2 (.loop L_count_fits_2))) (.seq R_count_fits_16 .ret)))))) }
abbrev k_count_fits : Nat := 23
-- suffrage/count.Twin
def R_count_Twin_0 : AC := .ops false [⟨some 1, .box (.t 0), none, []⟩,
  ⟨some 2, .alloc [.lst 0 [] (some 0), .lst 0 [] (some 0), .lst 0 [] (some 0)], none, []⟩] [0]
def R_count_Twin_1 : AC := .ops true [⟨some 6, .fa (.t 1) 0, none, []⟩,
  ⟨some 7, .load 1 true (.t 6), none, [0]⟩,
  ⟨some 8, .call (.fn 35) [.t 7], none, [1]⟩,
  ⟨some 9, .fa (.t 1) 1, none, []⟩,
  ⟨some 10, .load 1 true (.t 9), none, [3]⟩,
  ⟨some 11, .call (.fn 68) [.t 10], none, [4, 2]⟩,
  ⟨some 12, .fa (.t 1) 2, none, []⟩,
  ⟨some 13, .load 1 true (.t 12), none, [6]⟩,
  ⟨some 14, .call (.fn 69) [.t 13], none, [7, 5]⟩,
  ⟨some 15, .fa (.t 1) 0, none, [0, 1, 2, 3, 4, 6, 7]⟩,
  ⟨none, .store 1 (.t 15) (.t 8), none, [9, 2, 8, 0, 1, 2, 3, 4, 6, 7]⟩,
  ⟨some 16, .fa (.t 1) 1, none, [0, 1, 2, 3, 4, 5, 6, 7, 9, 10]⟩,
  ⟨none, .store 1 (.t 16) (.t 11), none, [11, 5, 10, 0, 1, 2, 3, 4, 5, 6, 7, 9, 10]⟩,
  ⟨some 17, .fa (.t 1) 2, none, [0, 1, 2, 3, 4, 5, 6, 7, 8, 9, 10, 11, 12]⟩,
  ⟨none, .store 1 (.t 17) (.t 14), none, [13, 8, 12, 0, 1, 2, 3, 4, 5, 6, 7, 8, 9, 10, 11, 12]⟩] [6, 7, 8, 9, 10, 11, 12, 13, 14, 15, 16, 17]
def R_count_Twin_2 : AC := .ops false [⟨some 18, .fa (.t 1) 1, none, []⟩,
  ⟨some 19, .load 1 true (.t 18), none, []⟩,
  ⟨some 20, .len (.t 19), none, []⟩,
  ⟨some 21, .mov (.c (.int .i64 0)), none, []⟩] [18]
def R_count_Twin_3 : AC := .ops false [⟨some 22, .bin .lss (.t 21) (.t 20), none, []⟩] []
def R_count_Twin_4 : AC := .ops false [⟨some 23, .mov (.t 21), none, []⟩,
  ⟨some 24, .ia 6 (.t 19) (.t 21), none, []⟩,
  ⟨some 25, .load 6 false (.t 24), none, []⟩,
  ⟨some 4, .alloc [.lst 0 [] (some 0), .bool false, .lst 0 [] (some 0), .lst 0 [] (some 0), .lst 0 [] (some 0), .lst 0 [] (some 0)], none, []⟩,
  ⟨some 3, .mov (.t 23), none, []⟩,
  ⟨none, .store 6 (.t 4) (.t 25), none, []⟩] [22, 23, 24, 25]
def R_count_Twin_5 : AC := .ops true [⟨some 26, .fa (.t 1) 1, none, []⟩,
  ⟨some 27, .load 1 true (.t 26), none, [0]⟩,
  ⟨some 28, .mov (.t 3), none, []⟩,
  ⟨some 29, .fa (.t 4) 0, none, []⟩,
  ⟨some 30, .load 1 true (.t 29), none, [3]⟩,
  ⟨some 31, .call (.fn 26) [.t 30], none, [4]⟩,
  ⟨some 32, .fa (.t 4) 1, none, []⟩,
  ⟨some 33, .load 3 false (.t 32), none, [6]⟩,
  ⟨some 34, .call (.fn 70) [.t 33], none, [7, 5]⟩,
  ⟨some 35, .fa (.t 4) 4, none, []⟩,
  ⟨some 36, .load 1 true (.t 35), none, [9]⟩,
  ⟨some 37, .call (.fn 35) [.t 36], none, [10, 8]⟩,
  ⟨some 38, .fa (.t 4) 5, none, []⟩,
  ⟨some 39, .load 1 true (.t 38), none, [12]⟩,
  ⟨some 40, .call (.fn 35) [.t 39], none, [13, 11]⟩,
  ⟨some 41, .build [.lst 0 [] (some 0), .bool false, .lst 0 [] (some 0), .lst 0 [] (some 0), .lst 0 [] (some 0), .lst 0 [] (some 0)] [(0, 1, .t 31), (1, 3, .t 34), (4, 1, .t 37), (5, 1, .t 40)], none, [5, 8, 11, 14]⟩,
  ⟨some 42, .ia 6 (.t 27) (.t 28), none, [1, 2, 0, 1, 2, 3, 4, 5, 6, 7, 8, 9, 10, 11, 12, 13, 14, 15]⟩,
  ⟨none, .store 6 (.t 42) (.t 41), none, [16, 15, 14, 0, 1, 2, 3, 4, 5, 6, 7, 8, 9, 10, 11, 12, 13, 14, 15]⟩] [3, 4, 26, 27, 28, 29, 30, 31, 32, 33, 34, 35, 36, 37, 38, 39, 40, 41, 42]
def R_count_Twin_6 : AC := .ops false [⟨some 43, .bin .add (.t 21) (.c (.int .i64 1)), none, []⟩,
  ⟨some 21, .mov (.t 43), none, []⟩] [43]
def L_count_Twin_1 : AC := (.seq R_count_Twin_3 (.seq (.cond (.t 22) .skip (.exit 0)) (.seq (.block 1 (.seq R_count_Twin_4 R_count_Twin_5)) R_count_Twin_6)))
def R_count_Twin_7 : AC := .ops false [⟨some 44, .fa (.t 1) 2, none, []⟩,
  ⟨some 45, .load 1 true (.t 44), none, []⟩,
  ⟨some 46, .len (.t 45), none, []⟩,
  ⟨some 47, .mov (.c (.int .i64 0)), none, []⟩] [19, 20, 21, 22, 44, 45]
def R_count_Twin_8 : AC := .ops false [⟨some 48, .bin .lss (.t 47) (.t 46), none, []⟩] []
def R_count_Twin_9 : AC := .ops false [⟨some 49, .mov (.t 47), none, []⟩,
  ⟨some 5, .mov (.t 49), none, []⟩] [48, 49]
def R_count_Twin_10 : AC := .ops true [⟨some 50, .fa (.t 1) 2, none, []⟩,
  ⟨some 51, .load 1 true (.t 50), none, [0]⟩,
  ⟨some 52, .mov (.t 5), none, []⟩,
  ⟨some 53, .fa (.t 1) 2, none, []⟩,
  ⟨some 54, .load 1 true (.t 53), none, [3]⟩,
  ⟨some 55, .mov (.t 5), none, []⟩,
  ⟨some 56, .ia 2 (.t 54) (.t 55), none, [4, 5]⟩,
  ⟨some 57, .fa (.t 56) 0, none, [6]⟩,
  ⟨some 58, .load 1 true (.t 57), none, [7]⟩,
  ⟨some 59, .call (.fn 35) [.t 58], none, [8]⟩,
  ⟨some 60, .ia 2 (.t 51) (.t 52), none, [1, 2, 0, 1, 2, 3, 4, 5, 6, 7, 8, 9]⟩,
  ⟨some 61, .fa (.t 60) 0, none, [10, 0, 1, 2, 3, 4, 5, 6, 7, 8, 9]⟩,
  ⟨none, .store 1 (.t 61) (.t 59), none, [11, 9, 9, 0, 1, 2, 3, 4, 5, 6, 7, 8, 9]⟩] [5, 50, 51, 52, 53, 54, 55, 56, 57, 58, 59, 60, 61]
def R_count_Twin_11 : AC := .ops false [⟨some 62, .bin .add (.t 47) (.c (.int .i64 1)), none, []⟩,
  ⟨some 47, .mov (.t 62), none, []⟩] [62]
def L_count_Twin_2 : AC := (.seq R_count_Twin_8 (.seq (.cond (.t 48) .skip (.exit 2)) (.seq (.block 3 (.seq R_count_Twin_9 R_count_Twin_10)) R_count_Twin_11)))
def R_count_Twin_12 : AC := .ops false [⟨some 63, .load 3 false (.t 1), none, []⟩,
  ⟨none, .store 3 (.t 2) (.t 63), none, []⟩] [1, 46, 47, 48, 63]
def F_count_Twin : AFunc := { ntmps := 64, nargs := 1, kills := [[0], [6, 7, 8, 9, 10, 11, 12, 13, 14, 15, 16, 17], [18], [], [22, 23, 24, 25], [3, 4, 26, 27, 28, 29, 30, 31, 32, 33, 34, 35, 36, 37, 38, 39, 40, 41, 42], [43], [19, 20, 21, 22, 44, 45], [], [48, 49], [5, 50, 51, 52, 53, 54, 55, 56, 57, 58, 59, 60, 61], [62], [1, 46, 47, 48, 63]], results := [.cell 2 3 false], body := (.seq R_count_Twin_0 (.seq R_count_Twin_1 (.seq (.seq R_count_Twin_2 (.block 0 (.loop L_count_Twin_1))) (.seq (.seq R_count_Twin_7 (.block 2 (.loop L_count_Twin_2))) (.seq R_count_Twin_12 .ret))))) }
abbrev k_count_Twin : Nat := 24
-- suffrage/count.Rename$1
def R_count_Rename_1_0 : AC := .ops false [⟨some 5, .mov (.t 0), none, []⟩,
  ⟨some 6, .len (.t 5), none, []⟩,
  ⟨some 7, .mov (.c (.int .i64 0)), none, []⟩] []
def R_count_Rename_1_1 : AC := .ops false [⟨some 8, .bin .lss (.t 7) (.t 6), none, []⟩] []
def R_count_Rename_1_2 : AC := .ops false [⟨some 9, .mov (.t 7), none, []⟩,
  ⟨some 10, .ia 1 (.t 5) (.t 7), none, []⟩,
  ⟨some 11, .load 1 true (.t 10), none, []⟩,
  ⟨some 3, .mov (.t 9), none, []⟩,
  ⟨some 4, .mov (.t 11), none, []⟩] [8, 9, 10, 11]
def R_count_Rename_1_3 : AC := .ops false [⟨some 12, .mov (.t 0), none, []⟩,
  ⟨some 13, .mov (.t 3), none, []⟩,
  ⟨some 14, .load 1 true (.t 1), none, []⟩,
  ⟨some 15, .mov (.t 4), none, []⟩,
  ⟨some 16, .ia 1 (.t 14) (.t 15), none, []⟩,
  ⟨some 17, .load 1 true (.t 16), none, []⟩,
  ⟨some 18, .ia 1 (.t 12) (.t 13), none, []⟩,
  ⟨none, .store 1 (.t 18) (.t 17), none, []⟩] [3, 4, 12, 13, 14, 15, 16, 17, 18]
def R_count_Rename_1_4 : AC := .ops false [⟨some 19, .bin .add (.t 7) (.c (.int .i64 1)), none, []⟩,
  ⟨some 7, .mov (.t 19), none, []⟩] [19]
def L_count_Rename_1_1 : AC := (.seq R_count_Rename_1_1 (.seq (.cond (.t 8) .skip (.exit 0)) (.seq (.block 1 (.seq R_count_Rename_1_2 R_count_Rename_1_3)) R_count_Rename_1_4)))
def F_count_Rename_1 : AFunc := { ntmps := 20, nargs := 2, kills := [[], [], [8, 9, 10, 11], [3, 4, 12, 13, 14, 15, 16, 17, 18], [19]], results := [], body := (.seq R_count_Rename_1_0 (.block 0 (.loop L_count_Rename_1_1))) }
abbrev k_count_Rename_1 : Nat := 25
-- suffrage/count.ratios
def R_count_ratios_0 : AC := .ops false [⟨some 2, .mov (.c (.lst 0 [] (some 0))), none, []⟩] [2]
def R_count_ratios_1 : AC := .ops false [⟨some 5, .mov (.t 0), none, []⟩,
  ⟨some 6, .call (.fn 71) [.t 5], none, []⟩,
  ⟨some 3, .mov (.t 6), none, []⟩] [0, 5, 6]
def R_count_ratios_2 : AC := .ops false [⟨some 7, .mov (.t 3), none, []⟩,
  ⟨some 8, .len (.t 7), none, []⟩,
  ⟨some 9, .mov (.c (.int .i64 0)), none, []⟩] [7]
def R_count_ratios_3 : AC := .ops false [⟨some 10, .bin .lss (.t 9) (.t 8), none, []⟩] []
def R_count_ratios_4 : AC := .ops false [⟨some 11, .mov (.t 9), none, []⟩,
  ⟨some 4, .mov (.t 11), none, []⟩] [10, 11]
def R_count_ratios_5 : AC := .ops false [⟨some 12, .mov (.t 3), none, []⟩,
  ⟨some 13, .mov (.t 4), none, []⟩,
  ⟨some 14, .mov (.t 3), none, []⟩,
  ⟨some 15, .mov (.t 4), none, []⟩,
  ⟨some 16, .ia 3 (.t 14) (.t 15), none, []⟩,
  ⟨some 17, .load 3 false (.t 16), none, []⟩,
  ⟨some 18, .call (.fn 70) [.t 17], none, []⟩,
  ⟨some 19, .ia 3 (.t 12) (.t 13), none, []⟩,
  ⟨none, .store 3 (.t 19) (.t 18), none, []⟩] [4, 12, 13, 14, 15, 16, 17, 18, 19]
def R_count_ratios_6 : AC := .ops false [⟨some 20, .bin .add (.t 9) (.c (.int .i64 1)), none, []⟩,
  ⟨some 9, .mov (.t 20), none, []⟩] [20]
def L_count_ratios_1 : AC := (.seq R_count_ratios_3 (.seq (.cond (.t 10) .skip (.exit 0)) (.seq (.block 1 (.seq R_count_ratios_4 R_count_ratios_5)) R_count_ratios_6)))
def R_count_ratios_7 : AC := .ops false [⟨some 21, .mov (.t 3), none, []⟩,
  ⟨some 2, .mov (.t 21), none, []⟩] [3, 8, 9, 10, 21]
def F_count_ratios : AFunc := { ntmps := 22, nargs := 1, kills := [[2], [0, 5, 6], [7], [], [10, 11], [4, 12, 13, 14, 15, 16, 17, 18, 19], [20], [3, 8, 9, 10, 21]], results := [.t 2], body := (.seq R_count_ratios_0 (.seq R_count_ratios_1 (.seq (.seq R_count_ratios_2 (.block 0 (.loop L_count_ratios_1))) (.seq R_count_ratios_7 .ret)))) }
abbrev k_count_ratios : Nat := 26
-- slices.Sort[[]int,int]
def R_slices_Sort_0 : AC := .ops false [⟨some 3, .mov (.t 0), none, []⟩,
  ⟨some 4, .len (.t 3), none, []⟩,
  ⟨some 2, .mov (.t 4), none, []⟩] [3, 4]
def R_slices_Sort_1 : AC := .ops false [⟨some 5, .mov (.t 0), none, []⟩,
  ⟨some 6, .mov (.t 2), none, []⟩,
  ⟨some 7, .mov (.t 2), none, []⟩,
  ⟨some 8, .conv .u64 (.t 7), none, []⟩,
  ⟨some 9, .call (.fn 73) [.t 8], none, []⟩,
  ⟨some 10, .call (.fn 72) [.t 5, .c (.int .i64 0), .t 6, .t 9], none, []⟩] [0, 2, 5, 6, 7, 8, 9, 10]
def F_slices_Sort : AFunc := { ntmps := 11, nargs := 1, kills := [[3, 4], [0, 2, 5, 6, 7, 8, 9, 10]], results := [], body := (.seq R_slices_Sort_0 R_slices_Sort_1) }
abbrev k_slices_Sort : Nat := 27
-- suffrage/suffrageref11.rounds
def R_suffrageref11_rounds_0 : AC := .ops false [⟨some 4, .mov (.c (.bool false)), none, []⟩] [4]
def R_suffrageref11_rounds_1 : AC := .ops false [⟨some 6, .mov (.t 0), none, []⟩,
  ⟨some 7, .len (.t 6), none, []⟩,
  ⟨some 8, .mov (.t 1), none, []⟩,
  ⟨some 9, .len (.t 8), none, []⟩,
  ⟨some 10, .bin .neq (.t 7) (.t 9), none, []⟩] [6, 7, 8, 9]
def R_suffrageref11_rounds_2 : AC := .ops false [⟨some 4, .mov (.c (.bool false)), none, []⟩] [0, 1, 10]
def R_suffrageref11_rounds_3 : AC := .ops false [⟨some 5, .mov (.c (.int .i64 0)), none, []⟩] [10]
def R_suffrageref11_rounds_4 : AC := .ops false [⟨some 11, .mov (.t 5), none, []⟩,
  ⟨some 12, .mov (.t 0), none, []⟩,
  ⟨some 13, .len (.t 12), none, []⟩,
  ⟨some 14, .bin .lss (.t 11) (.t 13), none, []⟩] [11, 12, 13]
def R_suffrageref11_rounds_6 : AC := .ops true [⟨some 17, .mov (.t 0), none, []⟩,
  ⟨some 18, .mov (.t 5), none, []⟩,
  ⟨some 19, .ia 6 (.t 17) (.t 18), none, [0, 1]⟩,
  ⟨some 20, .fa (.t 19) 0, none, [2]⟩,
  ⟨some 21, .load 1 true (.t 20), none, [3]⟩,
  ⟨some 22, .mov (.t 1), none, []⟩,
  ⟨some 23, .mov (.t 5), none, []⟩,
  ⟨some 24, .ia 6 (.t 22) (.t 23), none, [5, 6]⟩,
  ⟨some 25, .fa (.t 24) 0, none, [7]⟩,
  ⟨some 26, .load 1 true (.t 25), none, [8]⟩,
  ⟨some 27, .call (.fn 74) [.t 21, .t 26], none, [4, 9]⟩,
  ⟨some 28, .un .not (.t 27), none, [10]⟩,
  ⟨some 29, .mov (.t 28), none, [11, 10]⟩,
  ⟨some 30, .mov (.t 0), some (29, false), [12]⟩,
  ⟨some 31, .mov (.t 5), some (29, false), [12]⟩,
  ⟨some 32, .ia 6 (.t 30) (.t 31), some (29, false), [13, 14, 12]⟩,
  ⟨some 33, .fa (.t 32) 1, some (29, false), [15, 12]⟩,
  ⟨some 34, .load 3 false (.t 33), some (29, false), [16, 12]⟩,
  ⟨some 35, .mov (.t 1), some (29, false), [12]⟩,
  ⟨some 36, .mov (.t 5), some (29, false), [12]⟩,
  ⟨some 37, .ia 6 (.t 35) (.t 36), some (29, false), [18, 19, 12]⟩,
  ⟨some 38, .fa (.t 37) 1, some (29, false), [20, 12]⟩,
  ⟨some 39, .load 3 false (.t 38), some (29, false), [21, 12]⟩,
  ⟨some 40, .call (.fn 75) [.t 34, .t 39], some (29, false), [17, 22, 12, 12]⟩,
  ⟨some 41, .un .not (.t 40), some (29, false), [23, 12]⟩,
  ⟨some 42, .pick (.t 29) (.c (.bool true)) (.t 41), none, [12, 24]⟩,
  ⟨some 43, .mov (.t 42), none, [25, 23]⟩,
  ⟨some 44, .mov (.t 0), some (43, false), [26]⟩,
  ⟨some 45, .mov (.t 5), some (43, false), [26]⟩,
  ⟨some 46, .ia 6 (.t 44) (.t 45), some (43, false), [27, 28, 26]⟩,
  ⟨some 47, .fa (.t 46) 4, some (43, false), [29, 26]⟩,
  ⟨some 48, .load 1 true (.t 47), some (43, false), [30, 26]⟩,
  ⟨some 49, .mov (.t 1), some (43, false), [26]⟩,
  ⟨some 50, .mov (.t 5), some (43, false), [26]⟩,
  ⟨some 51, .ia 6 (.t 49) (.t 50), some (43, false), [32, 33, 26]⟩,
  ⟨some 52, .fa (.t 51) 4, some (43, false), [34, 26]⟩,
  ⟨some 53, .load 1 true (.t 52), some (43, false), [35, 26]⟩,
  ⟨some 54, .call (.fn 10) [.t 48, .t 53], some (43, false), [31, 36, 26, 26]⟩,
  ⟨some 55, .un .not (.t 54), some (43, false), [37, 26]⟩,
  ⟨some 56, .pick (.t 43) (.c (.bool true)) (.t 55), none, [26, 38]⟩,
  ⟨some 57, .mov (.t 56), none, [39, 37]⟩,
  ⟨some 58, .mov (.t 0), some (57, false), [40]⟩,
  ⟨some 59, .mov (.t 5), some (57, false), [40]⟩,
  ⟨some 60, .ia 6 (.t 58) (.t 59), some (57, false), [41, 42, 40]⟩,
  ⟨some 61, .fa (.t 60) 5, some (57, false), [43, 40]⟩,
  ⟨some 62, .load 1 true (.t 61), some (57, false), [44, 40]⟩,
  ⟨some 63, .mov (.t 1), some (57, false), [40]⟩,
  ⟨some 64, .mov (.t 5), some (57, false), [40]⟩,
  ⟨some 65, .ia 6 (.t 63) (.t 64), some (57, false), [46, 47, 40]⟩,
  ⟨some 66, .fa (.t 65) 5, some (57, false), [48, 40]⟩,
  ⟨some 67, .load 1 true (.t 66), some (57, false), [49, 40]⟩,
  ⟨some 68, .call (.fn 10) [.t 62, .t 67], some (57, false), [45, 50, 40, 40]⟩,
  ⟨some 69, .un .not (.t 68), some (57, false), [51, 40]⟩,
  ⟨some 70, .pick (.t 57) (.c (.bool true)) (.t 69), none, [40, 52]⟩] [14, 17, 18, 19, 20, 21, 22, 23, 24, 25, 26, 27, 28, 29, 30, 31, 32, 33, 34, 35, 36, 37, 38, 39, 40, 41, 42, 43, 44, 45, 46, 47, 48, 49, 50, 51, 52, 53, 54, 55, 56, 57, 58, 59, 60, 61, 62, 63, 64, 65, 66, 67, 68, 69]
def R_suffrageref11_rounds_7 : AC := .ops false [⟨some 4, .mov (.c (.bool false)), none, []⟩] [0, 1, 5, 70]
def R_suffrageref11_rounds_5 : AC := .ops false [⟨some 15, .mov (.t 5), none, []⟩,
  ⟨some 16, .bin .add (.t 15) (.c (.int .i64 1)), none, []⟩,
  ⟨some 5, .mov (.t 16), none, []⟩] [15, 16, 70]
def L_suffrageref11_rounds_1 : AC := (.seq (.seq R_suffrageref11_rounds_4 (.cond (.t 14) .skip (.exit 0))) (.seq (.block 1 (.seq R_suffrageref11_rounds_6 (.cond (.t 70) (.seq R_suffrageref11_rounds_7 .ret) .skip))) R_suffrageref11_rounds_5))
def R_suffrageref11_rounds_8 : AC := .ops false [⟨some 4, .mov (.c (.bool true)), none, []⟩] [0, 1, 5, 14]
def F_suffrageref11_rounds : AFunc := { ntmps := 71, nargs := 2, kills := [[4], [6, 7, 8, 9], [0, 1, 10], [10], [11, 12, 13], [15, 16, 70], [14, 17, 18, 19, 20, 21, 22, 23, 24, 25, 26, 27, 28, 29, 30, 31, 32, 33, 34, 35, 36, 37, 38, 39, 40, 41, 42, 43, 44, 45, 46, 47, 48, 49, 50, 51, 52, 53, 54, 55, 56, 57, 58, 59, 60, 61, 62, 63, 64, 65, 66, 67, 68, 69], [0, 1, 5, 70], [0, 1, 5, 14]], results := [.t 4], body := (.seq R_suffrageref11_rounds_0 (.seq (.seq R_suffrageref11_rounds_1 (.cond (.t 10) (.seq R_suffrageref11_rounds_2 .ret) .skip)) (.seq (.seq R_suffrageref11_rounds_3 (.block 0 (.loop L_suffrageref11_rounds_1))) (.seq R_suffrageref11_rounds_8 .ret)))) }
abbrev k_suffrageref11_rounds : Nat := 28
-- suffrage/suffrageref11.Ties
def R_suffrageref11_Ties_0 : AC := .ops false [⟨some 4, .mov (.c (.bool false)), none, []⟩] [4]
def R_suffrageref11_Ties_1 : AC := .ops false [⟨some 6, .mov (.t 0), none, []⟩,
  ⟨some 7, .len (.t 6), none, []⟩,
  ⟨some 8, .mov (.t 1), none, []⟩,
  ⟨some 9, .len (.t 8), none, []⟩,
  ⟨some 10, .bin .neq (.t 7) (.t 9), none, []⟩] [6, 7, 8, 9]
def R_suffrageref11_Ties_2 : AC := .ops false [⟨some 4, .mov (.c (.bool false)), none, []⟩] [0, 1, 10]
def R_suffrageref11_Ties_3 : AC := .ops false [⟨some 5, .mov (.c (.int .i64 0)), none, []⟩] [10]
def R_suffrageref11_Ties_4 : AC := .ops false [⟨some 11, .mov (.t 5), none, []⟩,
  ⟨some 12, .mov (.t 0), none, []⟩,
  ⟨some 13, .len (.t 12), none, []⟩,
  ⟨some 14, .bin .lss (.t 11) (.t 13), none, []⟩] [11, 12, 13]
def R_suffrageref11_Ties_6 : AC := .ops true [⟨some 17, .mov (.t 0), none, []⟩,
  ⟨some 18, .mov (.t 5), none, []⟩,
  ⟨some 19, .ia 2 (.t 17) (.t 18), none, [0, 1]⟩,
  ⟨some 20, .fa (.t 19) 1, none, [2]⟩,
  ⟨some 21, .load 1 true (.t 20), none, [3]⟩,
  ⟨some 22, .mov (.t 1), none, []⟩,
  ⟨some 23, .mov (.t 5), none, []⟩,
  ⟨some 24, .ia 2 (.t 22) (.t 23), none, [5, 6]⟩,
  ⟨some 25, .fa (.t 24) 1, none, [7]⟩,
  ⟨some 26, .load 1 true (.t 25), none, [8]⟩,
  ⟨some 27, .bin .neq (.t 21) (.t 26), none, [4, 9]⟩,
  ⟨some 28, .mov (.t 27), none, [10]⟩,
  ⟨some 29, .mov (.t 0), some (28, false), [11]⟩,
  ⟨some 30, .mov (.t 5), some (28, false), [11]⟩,
  ⟨some 31, .ia 2 (.t 29) (.t 30), some (28, false), [12, 13, 11]⟩,
  ⟨some 32, .fa (.t 31) 0, some (28, false), [14, 11]⟩,
  ⟨some 33, .load 1 true (.t 32), some (28, false), [15, 11]⟩,
  ⟨some 34, .mov (.t 1), some (28, false), [11]⟩,
  ⟨some 35, .mov (.t 5), some (28, false), [11]⟩,
  ⟨some 36, .ia 2 (.t 34) (.t 35), some (28, false), [17, 18, 11]⟩,
  ⟨some 37, .fa (.t 36) 0, some (28, false), [19, 11]⟩,
  ⟨some 38, .load 1 true (.t 37), some (28, false), [20, 11]⟩,
  ⟨some 39, .call (.fn 10) [.t 33, .t 38], some (28, false), [16, 21, 11, 11]⟩,
  ⟨some 40, .un .not (.t 39), some (28, false), [22, 11]⟩,
  ⟨some 41, .pick (.t 28) (.c (.bool true)) (.t 40), none, [11, 23]⟩] [14, 17, 18, 19, 20, 21, 22, 23, 24, 25, 26, 27, 28, 29, 30, 31, 32, 33, 34, 35, 36, 37, 38, 39, 40]
def R_suffrageref11_Ties_7 : AC := .ops false [⟨some 4, .mov (.c (.bool false)), none, []⟩] [0, 1, 5, 41]
def R_suffrageref11_Ties_5 : AC := .ops false [⟨some 15, .mov (.t 5), none, []⟩,
  ⟨some 16, .bin .add (.t 15) (.c (.int .i64 1)), none, []⟩,
  ⟨some 5, .mov (.t 16), none, []⟩] [15, 16, 41]
def L_suffrageref11_Ties_1 : AC := (.seq (.seq R_suffrageref11_Ties_4 (.cond (.t 14) .skip (.exit 0))) (.seq (.block 1 (.seq R_suffrageref11_Ties_6 (.cond (.t 41) (.seq R_suffrageref11_Ties_7 .ret) .skip))) R_suffrageref11_Ties_5))
def R_suffrageref11_Ties_8 : AC := .ops false [⟨some 4, .mov (.c (.bool true)), none, []⟩] [0, 1, 5, 14]
def F_suffrageref11_Ties : AFunc := { ntmps := 42, nargs := 2, kills := [[4], [6, 7, 8, 9], [0, 1, 10], [10], [11, 12, 13], [15, 16, 41], [14, 17, 18, 19, 20, 21, 22, 23, 24, 25, 26, 27, 28, 29, 30, 31, 32, 33, 34, 35, 36, 37, 38, 39, 40], [0, 1, 5, 41], [0, 1, 5, 14]], results := [.t 4], body := (.seq R_suffrageref11_Ties_0 (.seq (.seq R_suffrageref11_Ties_1 (.cond (.t 10) (.seq R_suffrageref11_Ties_2 .ret) .skip)) (.seq (.seq R_suffrageref11_Ties_3 (.block 0 (.loop L_suffrageref11_Ties_1))) (.seq R_suffrageref11_Ties_8 .ret)))) }
abbrev k_suffrageref11_Ties : Nat := 29
-- suffrage/ratio.Of
def R_ratio_Of_0 : AC := .ops false [⟨some 4, .alloc [.bool false, .lst 0 [] (some 0), .lst 0 [] (some 0)], none, []⟩,
  ⟨some 5, .mov (.c (.int .i64 0)), none, []⟩] [5]
def R_ratio_Of_1 : AC := .ops false [⟨some 6, .mov (.t 1), none, []⟩,
  ⟨some 7, .bin .eql (.t 6) (.c (.int .i64 0)), none, []⟩] [6]
def R_ratio_Of_2 : AC := .ops false [⟨some 8, .build [.bool false, .lst 0 [] (some 0), .lst 0 [] (some 0)] [], none, []⟩,
  ⟨none, .store 3 (.t 4) (.t 8), none, []⟩,
  ⟨some 5, .mov (.c (.int .i64 40)), none, []⟩] [0, 1, 7, 8]
def R_ratio_Of_3 : AC := .ops false [⟨some 9, .mov (.t 0), none, []⟩,
  ⟨some 10, .bin .lss (.t 9) (.c (.int .i64 0)), none, []⟩,
  ⟨some 11, .mov (.t 1), none, []⟩,
  ⟨some 12, .bin .lss (.t 11) (.c (.int .i64 0)), none, []⟩,
  ⟨some 13, .beq true (.t 10) (.t 12), none, []⟩,
  ⟨some 14, .mov (.t 0), none, []⟩,
  ⟨some 15, .call (.fn 78) [.t 14], none, []⟩,
  ⟨some 16, .call (.fn 77) [.t 15], none, []⟩,
  ⟨some 17, .mov (.t 1), none, []⟩,
  ⟨some 18, .call (.fn 78) [.t 17], none, []⟩,
  ⟨some 19, .call (.fn 77) [.t 18], none, []⟩,
  ⟨some 20, .call (.fn 76) [.t 13, .t 16, .t 19], none, []⟩,
  ⟨none, .store 3 (.t 4) (.t 20), none, []⟩,
  ⟨some 5, .mov (.c (.int .i64 0)), none, []⟩] [0, 1, 7, 9, 10, 11, 12, 13, 14, 15, 16, 17, 18, 19, 20]
def F_ratio_Of : AFunc := { ntmps := 21, nargs := 2, kills := [[5], [6], [0, 1, 7, 8], [0, 1, 7, 9, 10, 11, 12, 13, 14, 15, 16, 17, 18, 19, 20]], results := [.cell 4 3 false, .t 5], body := (.seq R_ratio_Of_0 (.seq (.seq R_ratio_Of_1 (.cond (.t 7) (.seq R_ratio_Of_2 .ret) .skip)) (.seq R_ratio_Of_3 .ret))) }
abbrev k_ratio_Of : Nat := 30
-- suffrage/ratio.Whole
def R_ratio_Whole_0 : AC := .ops false [⟨some 2, .alloc [.bool false, .lst 0 [] (some 0), .lst 0 [] (some 0)], none, []⟩] []
def R_ratio_Whole_1 : AC := .ops false [⟨some 3, .mov (.t 0), none, []⟩,
  ⟨some 4, .bin .lss (.t 3) (.c (.int .i64 0)), none, []⟩,
  ⟨some 5, .mov (.t 0), none, []⟩,
  ⟨some 6, .call (.fn 78) [.t 5], none, []⟩,
  ⟨some 7, .call (.fn 77) [.t 6], none, []⟩,
  ⟨some 8, .call (.fn 79) [], none, []⟩,
  ⟨some 9, .build [.bool false, .lst 0 [] (some 0), .lst 0 [] (some 0)] [(0, 1, .t 4), (1, 1, .t 7), (2, 1, .t 8)], none, []⟩,
  ⟨none, .store 3 (.t 2) (.t 9), none, []⟩] [0, 3, 4, 5, 6, 7, 8, 9]
def F_ratio_Whole : AFunc := { ntmps := 10, nargs := 1, kills := [[], [0, 3, 4, 5, 6, 7, 8, 9]], results := [.cell 2 3 false], body := (.seq R_ratio_Whole_0 (.seq R_ratio_Whole_1 .ret)) }
abbrev k_ratio_Whole : Nat := 31
-- slices.Clone[[]int,int]
def R_slices_Clone_0 : AC := .ops false [⟨some 2, .mov (.c (.lst 0 [] (some 0))), none, []⟩] [2]
def R_slices_Clone_1 : AC := .ops false [⟨some 3, .mov (.t 0), none, []⟩,
  ⟨some 4, .isnil 0 false (.t 3), none, []⟩] [3]
def R_slices_Clone_2 : AC := .ops false [⟨some 2, .mov (.c (.lst 0 [] (some 0))), none, []⟩] [0, 4]
def R_slices_Clone_3 : AC := .ops false [⟨some 5, .bslice 1 [.int .i64 0] 0 [], none, []⟩,
  ⟨some 6, .mov (.t 0), none, []⟩,
  ⟨some 7, .append 1 8 (.t 5) (.t 6), none, []⟩,
  ⟨some 2, .mov (.t 7), none, []⟩] [0, 4, 5, 6, 7]
def F_slices_Clone : AFunc := { ntmps := 8, nargs := 1, kills := [[2], [3], [0, 4], [0, 4, 5, 6, 7]], results := [.t 2], body := (.seq R_slices_Clone_0 (.seq (.seq R_slices_Clone_1 (.cond (.t 4) (.seq R_slices_Clone_2 .ret) .skip)) (.seq R_slices_Clone_3 .ret))) }
abbrev k_slices_Clone : Nat := 35
-- suffrage/contest.odd
def R_contest_odd_0 : AC := .ops false [⟨some 2, .mov (.c (.bool false)), none, []⟩] [2]
def R_contest_odd_1 : AC := .ops false [⟨some 3, .mov (.t 0), none, []⟩,
  ⟨some 4, .call (.fn 89) [.t 3, .f 90], none, []⟩,
  ⟨some 2, .mov (.t 4), none, []⟩] [0, 3, 4]
def F_contest_odd : AFunc := { ntmps := 5, nargs := 1, kills := [[2], [0, 3, 4]], results := [.t 2], body := (.seq R_contest_odd_0 (.seq R_contest_odd_1 .ret)) }
abbrev k_contest_odd : Nat := 37
-- suffrage/contest.twice
def R_contest_twice_0 : AC := .ops false [⟨some 2, .mov (.c (.bool false)), none, []⟩] [2]
def R_contest_twice_1 : AC := .ops false [⟨some 5, .mov (.t 0), none, []⟩,
  ⟨some 6, .len (.t 5), none, []⟩,
  ⟨some 7, .mov (.c (.int .i64 0)), none, []⟩] []
def R_contest_twice_2 : AC := .ops false [⟨some 8, .bin .lss (.t 7) (.t 6), none, []⟩] []
def R_contest_twice_3 : AC := .ops false [⟨some 9, .mov (.t 7), none, []⟩,
  ⟨some 10, .ia 1 (.t 5) (.t 7), none, []⟩,
  ⟨some 11, .load 1 true (.t 10), none, []⟩,
  ⟨some 3, .mov (.t 9), none, []⟩,
  ⟨some 4, .mov (.t 11), none, []⟩] [8, 9, 10, 11]
def R_contest_twice_4 : AC := .ops false [⟨some 12, .mov (.t 0), none, []⟩,
  ⟨some 13, .mov (.t 3), none, []⟩,
  ⟨some 14, .slice 1 (.t 12) none (some (.t 13)) none, none, []⟩,
  ⟨some 15, .mov (.t 4), none, []⟩,
  ⟨some 16, .call (.fn 93) [.t 14, .t 15], none, []⟩] [3, 4, 12, 13, 14, 15]
def R_contest_twice_5 : AC := .ops false [⟨some 2, .mov (.c (.bool true)), none, []⟩] [0, 5, 6, 7, 16]
def R_contest_twice_6 : AC := .ops false [⟨some 17, .bin .add (.t 7) (.c (.int .i64 1)), none, []⟩,
  ⟨some 7, .mov (.t 17), none, []⟩] [16, 17]
def L_contest_twice_1 : AC := (.seq R_contest_twice_2 (.seq (.cond (.t 8) .skip (.exit 0)) (.seq (.block 1 (.seq R_contest_twice_3 (.seq R_contest_twice_4 (.cond (.t 16) (.seq R_contest_twice_5 .ret) .skip)))) R_contest_twice_6)))
def R_contest_twice_7 : AC := .ops false [⟨some 2, .mov (.c (.bool false)), none, []⟩] [0, 5, 6, 7, 8]
def F_contest_twice : AFunc := { ntmps := 18, nargs := 1, kills := [[2], [], [], [8, 9, 10, 11], [3, 4, 12, 13, 14, 15], [0, 5, 6, 7, 16], [16, 17], [0, 5, 6, 7, 8]], results := [.t 2], body := (.seq R_contest_twice_0 (.seq (.seq R_contest_twice_1 (.block 0 (.loop L_contest_twice_1))) (.seq R_contest_twice_7 .ret))) }
abbrev k_contest_twice : Nat := 38
-- suffrage/contest.fits
def R_contest_fits_0 : AC := .ops false [⟨some 1, .box (.t 0), none, []⟩,
  ⟨some 2, .mov (.c (.bool false)), none, []⟩] [0, 2]
def R_contest_fits_1 : AC := .ops false [⟨some 3, .fa (.t 1) 2, none, []⟩,
  ⟨some 4, .load 1 true (.t 3), none, []⟩,
  ⟨some 5, .bin .lss (.t 4) (.c (.int .i64 1)), none, []⟩,
  ⟨some 6, .mov (.t 5), none, []⟩,
  ⟨some 7, .fa (.t 1) 2, some (6, false), []⟩,
  ⟨some 8, .load 1 true (.t 7), some (6, false), []⟩,
  ⟨some 9, .bin .gtr (.t 8) (.c (.int .i64 10)), some (6, false), []⟩,
  ⟨some 10, .pick (.t 6) (.c (.bool true)) (.t 9), none, []⟩] [3, 4, 5, 6, 7, 8, 9]
def R_contest_fits_2 : AC := .ops false [⟨some 2, .mov (.c (.bool false)), none, []⟩] [1, 10]
def R_contest_fits_3 : AC := .ops false [⟨some 11, .fa (.t 1) 3, none, []⟩,
  ⟨some 12, .load 1 true (.t 11), none, []⟩,
  ⟨some 13, .call (.fn 46) [.t 12], none, []⟩,
  ⟨some 14, .fld (.t 13) 2 1 true, none, []⟩] [10, 11, 12, 13]
def R_contest_fits_4 : AC := .ops false [⟨some 16, .bin .eql (.t 14) (.c (.int .i64 1)), none, []⟩,
  ⟨some 15, .mov (.t 16), none, []⟩] [16]
def R_contest_fits_5 : AC := .ops false [⟨some 17, .fa (.t 1) 2, none, []⟩,
  ⟨some 18, .load 1 true (.t 17), none, []⟩,
  ⟨some 19, .bin .eql (.t 18) (.c (.int .i64 1)), none, []⟩,
  ⟨some 2, .mov (.t 19), none, []⟩] [1, 14, 15, 17, 18, 19]
def R_contest_fits_6 : AC := .ops false [⟨some 21, .bin .eql (.t 14) (.c (.int .i64 2)), none, []⟩,
  ⟨some 20, .mov (.t 21), none, []⟩] [15, 21]
def R_contest_fits_7 : AC := .ops false [⟨some 22, .fa (.t 1) 2, none, []⟩,
  ⟨some 23, .load 1 true (.t 22), none, []⟩,
  ⟨some 24, .fa (.t 1) 1, none, []⟩,
  ⟨some 25, .load 1 true (.t 24), none, []⟩,
  ⟨some 26, .len (.t 25), none, []⟩,
  ⟨some 27, .bin .leq (.t 23) (.t 26), none, []⟩,
  ⟨some 2, .mov (.t 27), none, []⟩] [1, 14, 20, 22, 23, 24, 25, 26, 27]
def R_contest_fits_8 : AC := .ops false [⟨some 29, .bin .eql (.t 14) (.c (.int .i64 3)), none, []⟩,
  ⟨some 28, .mov (.t 29), none, []⟩] [1, 14, 20, 29]
def R_contest_fits_9 : AC := .ops false [⟨some 2, .mov (.c (.bool true)), none, []⟩] [28]
def R_contest_fits_10 : AC := .ops false [⟨some 2, .mov (.c (.bool false)), none, []⟩] [28]
def F_contest_fits : AFunc := { ntmps := 30, nargs := 1, kills := [[0, 2], [3, 4, 5, 6, 7, 8, 9], [1, 10], [10, 11, 12, 13], [16], [1, 14, 15, 17, 18, 19], [15, 21], [1, 14, 20, 22, 23, 24, 25, 26, 27], [1, 14, 20, 29], [28], [28]], results := [.t 2], body := (.seq R_contest_fits_0 (.seq (.seq R_contest_fits_1 (.cond (.t 10) (.seq R_contest_fits_2 .ret) .skip)) (.seq (.seq R_contest_fits_3 (.block 0 (.seq R_contest_fits_4 (.cond (.t 15) (.seq R_contest_fits_5 .ret) (.seq R_contest_fits_6 (.cond (.t 20) (.seq R_contest_fits_7 .ret) (.seq R_contest_fits_8 (.cond (.t 28) (.seq R_contest_fits_9 .ret) .skip)))))))) (.seq R_contest_fits_10 .ret)))) }
abbrev k_contest_fits : Nat := 39
-- suffrage/profile.all[suffrage/api.Row]
def R_profile_all_0 : AC := .ops false [⟨some 4, .mov (.c (.bool false)), none, []⟩] [4]
def R_profile_all_1 : AC := .ops false [⟨some 7, .mov (.t 0), none, []⟩,
  ⟨some 8, .len (.t 7), none, []⟩,
  ⟨some 9, .mov (.c (.int .i64 0)), none, []⟩] []
def R_profile_all_2 : AC := .ops false [⟨some 10, .bin .lss (.t 9) (.t 8), none, []⟩] []
def R_profile_all_3 : AC := .ops false [⟨some 11, .mov (.t 9), none, []⟩,
  ⟨some 12, .ia 2 (.t 7) (.t 9), none, []⟩,
  ⟨some 13, .load 2 false (.t 12), none, []⟩,
  ⟨some 6, .alloc [.lst 0 [] (some 0), .int .i64 0], none, []⟩,
  ⟨some 5, .mov (.t 11), none, []⟩,
  ⟨none, .store 2 (.t 6) (.t 13), none, []⟩] [10, 11, 12, 13]
def R_profile_all_4 : AC := .ops true [⟨some 14, .mov (.t 1), none, []⟩,
  ⟨some 15, .mov (.t 0), none, []⟩,
  ⟨some 16, .mov (.t 5), none, []⟩,
  ⟨some 17, .bin .sub (.t 16) (.c (.int .i64 1)), none, [2]⟩,
  ⟨some 18, .max [.t 17, .c (.int .i64 0)], none, [3]⟩,
  ⟨some 19, .ia 2 (.t 15) (.t 18), none, [1, 4]⟩,
  ⟨some 20, .load 2 false (.t 19), none, [5]⟩,
  ⟨some 21, .load 2 false (.t 6), none, []⟩,
  ⟨some 22, .call (.dyn (.t 14)) [.t 20, .t 21], none, [0, 6, 7]⟩,
  ⟨some 23, .un .not (.t 22), none, [8]⟩] [5, 6, 14, 15, 16, 17, 18, 19, 20, 21, 22]
def R_profile_all_5 : AC := .ops false [⟨some 4, .mov (.c (.bool false)), none, []⟩] [0, 1, 7, 8, 9, 23]
def R_profile_all_6 : AC := .ops false [⟨some 24, .bin .add (.t 9) (.c (.int .i64 1)), none, []⟩,
  ⟨some 9, .mov (.t 24), none, []⟩] [23, 24]
def L_profile_all_1 : AC := (.seq R_profile_all_2 (.seq (.cond (.t 10) .skip (.exit 0)) (.seq (.block 1 (.seq R_profile_all_3 (.seq R_profile_all_4 (.cond (.t 23) (.seq R_profile_all_5 .ret) .skip)))) R_profile_all_6)))
def R_profile_all_7 : AC := .ops false [⟨some 4, .mov (.c (.bool true)), none, []⟩] [0, 1, 7, 8, 9, 10]
def F_profile_all : AFunc := { ntmps := 25, nargs := 2, kills := [[4], [], [], [10, 11, 12, 13], [5, 6, 14, 15, 16, 17, 18, 19, 20, 21, 22], [0, 1, 7, 8, 9, 23], [23, 24], [0, 1, 7, 8, 9, 10]], results := [.t 4], body := (.seq R_profile_all_0 (.seq (.seq R_profile_all_1 (.block 0 (.loop L_profile_all_1))) (.seq R_profile_all_7 .ret))) }
abbrev k_profile_all : Nat := 40
-- suffrage/profile.Check$1
def R_profile_Check_1_0 : AC := .ops false [⟨some 5, .box (.t 0), none, []⟩,
  ⟨some 6, .box (.t 1), none, []⟩,
  ⟨some 7, .mov (.c (.bool false)), none, []⟩] [0, 1, 7]
def R_profile_Check_1_1 : AC := .ops false [⟨some 8, .load 1 true (.t 2), none, []⟩,
  ⟨some 9, .un .not (.t 8), none, []⟩,
  ⟨some 10, .mov (.t 9), none, []⟩,
  ⟨some 11, .fa (.t 5) 0, some (10, true), []⟩,
  ⟨some 12, .load 1 true (.t 11), some (10, true), []⟩,
  ⟨some 13, .fa (.t 6) 0, some (10, true), []⟩,
  ⟨some 14, .load 1 true (.t 13), some (10, true), []⟩,
  ⟨some 15, .call (.fn 42) [.t 12, .t 14], some (10, true), []⟩,
  ⟨some 16, .bin .geq (.t 15) (.c (.int .i64 0)), some (10, true), []⟩,
  ⟨some 17, .pick (.t 10) (.t 16) (.c (.bool false)), none, []⟩] [5, 8, 9, 10, 11, 12, 13, 14, 15, 16]
def R_profile_Check_1_2 : AC := .ops false [⟨some 7, .mov (.c (.bool false)), none, []⟩] [2, 3, 4, 6, 17]
def R_profile_Check_1_3 : AC := .ops false [⟨none, .store 1 (.t 2) (.c (.bool false)), none, []⟩] [2, 17]
def R_profile_Check_1_4 : AC := .ops false [⟨some 18, .load 1 true (.t 3), none, []⟩,
  ⟨some 19, .fa (.t 6) 1, none, []⟩,
  ⟨some 20, .load 1 true (.t 19), none, []⟩,
  ⟨some 21, .min [.t 20, .c (.int .i64 1000001)], none, []⟩,
  ⟨some 22, .bin .add (.t 18) (.t 21), none, []⟩,
  ⟨some 23, .min [.t 22, .c (.int .i64 1000001)], none, []⟩,
  ⟨none, .store 1 (.t 3) (.t 23), none, []⟩] [3, 18, 19, 20, 21, 22, 23]
def R_profile_Check_1_5 : AC := .ops true [⟨some 24, .fa (.t 6) 1, none, []⟩,
  ⟨some 25, .load 1 true (.t 24), none, [0]⟩,
  ⟨some 26, .bin .gtr (.t 25) (.c (.int .i64 0)), none, [1]⟩,
  ⟨some 27, .mov (.t 26), none, [2]⟩,
  ⟨some 28, .load 3 false (.t 4), some (27, true), [3]⟩,
  ⟨some 29, .load 2 false (.t 6), some (27, true), [3]⟩,
  ⟨some 30, .call (.fn 44) [.t 28, .t 29], some (27, true), [4, 5, 3, 3]⟩,
  ⟨some 31, .fa (.t 4) 0, some (27, true), [3]⟩,
  ⟨some 32, .load 1 true (.t 31), some (27, true), [7, 3]⟩,
  ⟨some 33, .call (.fn 43) [.t 30, .t 32], some (27, true), [6, 8, 6, 3]⟩,
  ⟨some 34, .bin .eql (.t 33) (.c (.int .i64 0)), some (27, true), [9, 3]⟩,
  ⟨some 35, .pick (.t 27) (.t 34) (.c (.bool false)), none, [3, 10]⟩,
  ⟨some 7, .mov (.t 35), none, [11, 9, 0, 1, 2, 3, 4, 5, 6, 7, 8, 9, 10, 11]⟩] [4, 6, 24, 25, 26, 27, 28, 29, 30, 31, 32, 33, 34, 35]
def F_profile_Check_1 : AFunc := { ntmps := 36, nargs := 5, kills := [[0, 1, 7], [5, 8, 9, 10, 11, 12, 13, 14, 15, 16], [2, 3, 4, 6, 17], [2, 17], [3, 18, 19, 20, 21, 22, 23], [4, 6, 24, 25, 26, 27, 28, 29, 30, 31, 32, 33, 34, 35]], results := [.t 7], body := (.seq R_profile_Check_1_0 (.seq (.seq R_profile_Check_1_1 (.cond (.t 17) (.seq R_profile_Check_1_2 .ret) .skip)) (.seq R_profile_Check_1_3 (.seq R_profile_Check_1_4 (.seq R_profile_Check_1_5 .ret))))) }
abbrev k_profile_Check_1 : Nat := 41
-- slices.Compare[[]int,int]
def R_slices_Compare_0 : AC := .ops false [⟨some 4, .mov (.c (.int .i64 0)), none, []⟩] [4]
def R_slices_Compare_1 : AC := .ops false [⟨some 9, .mov (.t 0), none, []⟩,
  ⟨some 10, .len (.t 9), none, []⟩,
  ⟨some 11, .mov (.c (.int .i64 0)), none, []⟩] []
def R_slices_Compare_2 : AC := .ops false [⟨some 12, .bin .lss (.t 11) (.t 10), none, []⟩] []
def R_slices_Compare_3 : AC := .ops false [⟨some 13, .mov (.t 11), none, []⟩,
  ⟨some 14, .ia 1 (.t 9) (.t 11), none, []⟩,
  ⟨some 15, .load 1 true (.t 14), none, []⟩,
  ⟨some 5, .mov (.t 13), none, []⟩,
  ⟨some 6, .mov (.t 15), none, []⟩] [12, 13, 14, 15]
def R_slices_Compare_4 : AC := .ops false [⟨some 16, .mov (.t 5), none, []⟩,
  ⟨some 17, .mov (.t 1), none, []⟩,
  ⟨some 18, .len (.t 17), none, []⟩,
  ⟨some 19, .bin .geq (.t 16) (.t 18), none, []⟩] [16, 17, 18]
def R_slices_Compare_5 : AC := .ops false [⟨some 4, .mov (.c (.int .i64 1)), none, []⟩] [0, 1, 5, 6, 9, 10, 11, 19]
def R_slices_Compare_6 : AC := .ops false [⟨some 20, .mov (.t 1), none, []⟩,
  ⟨some 21, .mov (.t 5), none, []⟩,
  ⟨some 22, .ia 1 (.t 20) (.t 21), none, []⟩,
  ⟨some 23, .load 1 true (.t 22), none, []⟩,
  ⟨some 7, .mov (.t 23), none, []⟩] [5, 19, 20, 21, 22, 23]
def R_slices_Compare_7 : AC := .ops false [⟨some 24, .mov (.t 6), none, []⟩,
  ⟨some 25, .mov (.t 7), none, []⟩,
  ⟨some 26, .call (.fn 94) [.t 24, .t 25], none, []⟩,
  ⟨some 8, .mov (.t 26), none, []⟩] [6, 7, 24, 25, 26]
def R_slices_Compare_8 : AC := .ops false [⟨some 27, .mov (.t 8), none, []⟩,
  ⟨some 28, .bin .neq (.t 27) (.c (.int .i64 0)), none, []⟩] [27]
def R_slices_Compare_9 : AC := .ops false [⟨some 29, .mov (.t 8), none, []⟩,
  ⟨some 4, .mov (.t 29), none, []⟩] [0, 1, 8, 9, 10, 11, 28, 29]
def R_slices_Compare_10 : AC := .ops false [⟨some 30, .bin .add (.t 11) (.c (.int .i64 1)), none, []⟩,
  ⟨some 11, .mov (.t 30), none, []⟩] [8, 28, 30]
def L_slices_Compare_1 : AC := (.seq R_slices_Compare_2 (.seq (.cond (.t 12) .skip (.exit 0)) (.seq (.block 1 (.seq R_slices_Compare_3 (.seq (.seq R_slices_Compare_4 (.cond (.t 19) (.seq R_slices_Compare_5 .ret) .skip)) (.seq R_slices_Compare_6 (.seq R_slices_Compare_7 (.seq R_slices_Compare_8 (.cond (.t 28) (.seq R_slices_Compare_9 .ret) .skip))))))) R_slices_Compare_10)))
def R_slices_Compare_11 : AC := .ops false [⟨some 31, .mov (.t 0), none, []⟩,
  ⟨some 32, .len (.t 31), none, []⟩,
  ⟨some 33, .mov (.t 1), none, []⟩,
  ⟨some 34, .len (.t 33), none, []⟩,
  ⟨some 35, .bin .lss (.t 32) (.t 34), none, []⟩] [0, 1, 9, 10, 11, 12, 31, 32, 33, 34]
def R_slices_Compare_12 : AC := .ops false [⟨some 4, .mov (.c (.int .i64 (-1))), none, []⟩] [35]
def R_slices_Compare_13 : AC := .ops false [⟨some 4, .mov (.c (.int .i64 0)), none, []⟩] [35]
def F_slices_Compare : AFunc := { ntmps := 36, nargs := 2, kills := [[4], [], [], [12, 13, 14, 15], [16, 17, 18], [0, 1, 5, 6, 9, 10, 11, 19], [5, 19, 20, 21, 22, 23], [6, 7, 24, 25, 26], [27], [0, 1, 8, 9, 10, 11, 28, 29], [8, 28, 30], [0, 1, 9, 10, 11, 12, 31, 32, 33, 34], [35], [35]], results := [.t 4], body := (.seq R_slices_Compare_0 (.seq (.seq R_slices_Compare_1 (.block 0 (.loop L_slices_Compare_1))) (.seq (.seq R_slices_Compare_11 (.cond (.t 35) (.seq R_slices_Compare_12 .ret) .skip)) (.seq R_slices_Compare_13 .ret)))) }
abbrev k_slices_Compare : Nat := 42
-- suffrage/ballot.Check
def R_ballot_Check_0 : AC := .ops false [⟨some 2, .box (.t 0), none, []⟩,
  ⟨some 4, .mov (.c (.int .i64 0)), none, []⟩] [0, 4]
def R_ballot_Check_1 : AC := .ops false [⟨some 5, .mov (.t 1), none, []⟩,
  ⟨some 6, .call (.fn 95) [.t 5, .c (.int .i64 1), .c (.int .i64 11)], none, []⟩,
  ⟨some 7, .un .not (.t 6), none, []⟩] [5, 6]
def R_ballot_Check_2 : AC := .ops false [⟨some 4, .mov (.c (.int .i64 2)), none, []⟩] [1, 2, 7]
def R_ballot_Check_3 : AC := .ops false [⟨some 8, .load 2 false (.t 2), none, []⟩,
  ⟨some 9, .mov (.t 1), none, []⟩,
  ⟨some 10, .call (.fn 96) [.t 8, .t 9], none, []⟩,
  ⟨some 11, .un .not (.t 10), none, []⟩] [1, 2, 7, 8, 9, 10]
def R_ballot_Check_4 : AC := .ops false [⟨some 4, .mov (.c (.int .i64 8)), none, []⟩] [11]
def R_ballot_Check_5 : AC := .ops false [⟨some 4, .mov (.c (.int .i64 0)), none, []⟩] [11]
def F_ballot_Check : AFunc := { ntmps := 12, nargs := 2, kills := [[0, 4], [5, 6], [1, 2, 7], [1, 2, 7, 8, 9, 10], [11], [11]], results := [.t 4], body := (.seq R_ballot_Check_0 (.seq (.seq R_ballot_Check_1 (.cond (.t 7) (.seq R_ballot_Check_2 .ret) .skip)) (.seq (.seq R_ballot_Check_3 (.cond (.t 11) (.seq R_ballot_Check_4 .ret) .skip)) (.seq R_ballot_Check_5 .ret)))) }
abbrev k_ballot_Check : Nat := 43
-- suffrage/profile.of
def R_profile_of_0 : AC := .ops false [⟨some 2, .box (.t 0), none, []⟩,
  ⟨some 3, .box (.t 1), none, []⟩,
  ⟨some 4, .alloc [.int .u8 0, .lst 0 [] (some 0)], none, []⟩] [0, 1]
def R_profile_of_1 : AC := .ops false [⟨some 5, .fa (.t 2) 1, none, []⟩,
  ⟨some 6, .load 1 true (.t 5), none, []⟩,
  ⟨some 7, .fa (.t 3) 0, none, []⟩,
  ⟨some 8, .load 1 true (.t 7), none, []⟩,
  ⟨some 9, .build [.int .u8 0, .lst 0 [] (some 0)] [(0, 1, .t 6), (1, 1, .t 8)], none, []⟩,
  ⟨none, .store 2 (.t 4) (.t 9), none, []⟩] [2, 3, 5, 6, 7, 8, 9]
def F_profile_of : AFunc := { ntmps := 10, nargs := 2, kills := [[0, 1], [2, 3, 5, 6, 7, 8, 9]], results := [.cell 4 2 false], body := (.seq R_profile_of_0 (.seq R_profile_of_1 .ret)) }
abbrev k_profile_of : Nat := 44
-- suffrage/profile.New
def R_profile_New_0 : AC := .ops false [⟨some 4, .alloc [.int .i64 0, .int .u8 0, .lst 0 [] (some 0)], none, []⟩,
  ⟨some 5, .mov (.c (.int .i64 0)), none, []⟩] [5]
def R_profile_New_1 : AC := .ops false [⟨some 6, .mov (.t 0), none, []⟩,
  ⟨some 7, .bin .lss (.t 6) (.c (.int .i64 1)), none, []⟩,
  ⟨some 8, .mov (.t 7), none, []⟩,
  ⟨some 9, .mov (.t 0), some (8, false), []⟩,
  ⟨some 10, .bin .gtr (.t 9) (.c (.int .i64 10)), some (8, false), []⟩,
  ⟨some 11, .pick (.t 8) (.c (.bool true)) (.t 10), none, []⟩,
  ⟨some 12, .mov (.t 11), none, []⟩,
  ⟨some 13, .mov (.t 1), some (12, false), []⟩,
  ⟨some 14, .bin .lss (.t 13) (.c (.int .u8 1)), some (12, false), []⟩,
  ⟨some 15, .pick (.t 12) (.c (.bool true)) (.t 14), none, []⟩,
  ⟨some 16, .mov (.t 15), none, []⟩,
  ⟨some 17, .mov (.t 1), some (16, false), []⟩,
  ⟨some 18, .bin .gtr (.t 17) (.c (.int .u8 3)), some (16, false), []⟩,
  ⟨some 19, .pick (.t 16) (.c (.bool true)) (.t 18), none, []⟩] [6, 7, 8, 9, 10, 11, 12, 13, 14, 15, 16, 17, 18]
def R_profile_New_2 : AC := .ops false [⟨some 20, .build [.int .i64 0, .int .u8 0, .lst 0 [] (some 0)] [], none, []⟩,
  ⟨none, .store 3 (.t 4) (.t 20), none, []⟩,
  ⟨some 5, .mov (.c (.int .i64 2)), none, []⟩] [0, 1, 19, 20]
def R_profile_New_3 : AC := .ops false [⟨some 21, .mov (.t 0), none, []⟩,
  ⟨some 22, .mov (.t 1), none, []⟩,
  ⟨some 23, .build [.int .i64 0, .int .u8 0, .lst 0 [] (some 0)] [(0, 1, .t 21), (1, 1, .t 22)], none, []⟩,
  ⟨none, .store 3 (.t 4) (.t 23), none, []⟩,
  ⟨some 5, .mov (.c (.int .i64 0)), none, []⟩] [0, 1, 19, 21, 22, 23]
def F_profile_New : AFunc := { ntmps := 24, nargs := 2, kills := [[5], [6, 7, 8, 9, 10, 11, 12, 13, 14, 15, 16, 17, 18], [0, 1, 19, 20], [0, 1, 19, 21, 22, 23]], results := [.cell 4 3 false, .t 5], body := (.seq R_profile_New_0 (.seq (.seq R_profile_New_1 (.cond (.t 19) (.seq R_profile_New_2 .ret) .skip)) (.seq R_profile_New_3 .ret))) }
abbrev k_profile_New : Nat := 45
-- suffrage/contest.of
def R_contest_of_0 : AC := .ops false [⟨some 2, .alloc [.str [], .int .u8 0, .int .i64 0, .bool false], none, []⟩] []
def R_contest_of_1 : AC := .ops false [⟨some 4, .call (.fn 97) [], none, []⟩,
  ⟨some 3, .alloc [.str [], .int .u8 0, .int .i64 0, .bool false, .str [], .int .u8 0, .int .i64 0, .bool false, .str [], .int .u8 0, .int .i64 0, .bool false, .str [], .int .u8 0, .int .i64 0, .bool false, .str [], .int .u8 0, .int .i64 0, .bool false, .str [], .int .u8 0, .int .i64 0, .bool false, .str [], .int .u8 0, .int .i64 0, .bool false, .str [], .int .u8 0, .int .i64 0, .bool false, .str [], .int .u8 0, .int .i64 0, .bool false, .str [], .int .u8 0, .int .i64 0, .bool false, .str [], .int .u8 0, .int .i64 0, .bool false, .str [], .int .u8 0, .int .i64 0, .bool false, .str [], .int .u8 0, .int .i64 0, .bool false, .str [], .int .u8 0, .int .i64 0, .bool false, .str [], .int .u8 0, .int .i64 0, .bool false, .str [], .int .u8 0, .int .i64 0, .bool false, .str [], .int .u8 0, .int .i64 0, .bool false], none, []⟩,
  ⟨none, .store 68 (.t 3) (.t 4), none, []⟩] [4]
def R_contest_of_2 : AC := .ops false [⟨some 5, .mov (.t 0), none, []⟩,
  ⟨some 6, .conv .i64 (.t 5), none, []⟩,
  ⟨some 7, .bin .lss (.t 6) (.c (.int .i64 17)), none, []⟩] [5, 6]
def R_contest_of_3 : AC := .ops false [⟨some 8, .mov (.t 0), none, []⟩,
  ⟨some 9, .iaa 4 17 (.t 3) (.t 8), none, []⟩,
  ⟨some 10, .load 4 false (.t 9), none, []⟩,
  ⟨none, .store 4 (.t 2) (.t 10), none, []⟩] [0, 3, 7, 8, 9, 10]
def R_contest_of_4 : AC := .ops false [⟨some 11, .build [.str [], .int .u8 0, .int .i64 0, .bool false] [], none, []⟩,
  ⟨none, .store 4 (.t 2) (.t 11), none, []⟩] [0, 3, 7, 11]
def F_contest_of : AFunc := { ntmps := 12, nargs := 1, kills := [[], [4], [5, 6], [0, 3, 7, 8, 9, 10], [0, 3, 7, 11]], results := [.cell 2 4 false], body := (.seq R_contest_of_0 (.seq (.seq R_contest_of_1 (.seq R_contest_of_2 (.cond (.t 7) (.seq R_contest_of_3 .ret) .skip))) (.seq R_contest_of_4 .ret))) }
abbrev k_contest_of : Nat := 46
-- suffrage/single.Plurality
def R_single_Plurality_0 : AC := .ops false [⟨some 3, .box (.t 0), none, []⟩,
  ⟨some 6, .alloc [.lst 0 [] (some 0), .lst 0 [] (some 0), .lst 0 [] (some 0)], none, []⟩,
  ⟨some 7, .mov (.c (.int .i64 0)), none, []⟩] [0, 7]
def R_single_Plurality_1 : AC := .ops false [⟨some 8, .build [.int .u8 0, .nilf, .nilf] [(0, 1, .c (.int .u8 2)), (1, 1, .f 98), (2, 1, .f 99)], none, []⟩,
  ⟨some 9, .load 3 false (.t 3), none, []⟩,
  ⟨some 10, .mov (.t 1), none, []⟩,
  ⟨some 11, .mov (.t 2), none, []⟩,
  ⟨some 12, .call (.fn 100) [.t 8, .t 9, .t 10, .t 11], none, []⟩,
  ⟨some 13, .ext (.t 12) 0, none, []⟩,
  ⟨some 14, .ext (.t 12) 1, none, []⟩,
  ⟨none, .store 3 (.t 6) (.t 13), none, []⟩,
  ⟨some 7, .mov (.t 14), none, []⟩] [1, 2, 3, 8, 9, 10, 11, 12, 13, 14]
def F_single_Plurality : AFunc := { ntmps := 15, nargs := 3, kills := [[0, 7], [1, 2, 3, 8, 9, 10, 11, 12, 13, 14]], results := [.cell 6 3 false, .t 7], body := (.seq R_single_Plurality_0 (.seq R_single_Plurality_1 .ret)) }
abbrev k_single_Plurality : Nat := 47
-- suffrage/single.Approval
def R_single_Approval_0 : AC := .ops false [⟨some 3, .box (.t 0), none, []⟩,
  ⟨some 6, .alloc [.lst 0 [] (some 0), .lst 0 [] (some 0), .lst 0 [] (some 0)], none, []⟩,
  ⟨some 7, .mov (.c (.int .i64 0)), none, []⟩] [0, 7]
def R_single_Approval_1 : AC := .ops false [⟨some 8, .build [.int .u8 0, .nilf, .nilf] [(0, 1, .c (.int .u8 2)), (1, 1, .f 98), (2, 1, .f 101)], none, []⟩,
  ⟨some 9, .load 3 false (.t 3), none, []⟩,
  ⟨some 10, .mov (.t 1), none, []⟩,
  ⟨some 11, .mov (.t 2), none, []⟩,
  ⟨some 12, .call (.fn 100) [.t 8, .t 9, .t 10, .t 11], none, []⟩,
  ⟨some 13, .ext (.t 12) 0, none, []⟩,
  ⟨some 14, .ext (.t 12) 1, none, []⟩,
  ⟨none, .store 3 (.t 6) (.t 13), none, []⟩,
  ⟨some 7, .mov (.t 14), none, []⟩] [1, 2, 3, 8, 9, 10, 11, 12, 13, 14]
def F_single_Approval : AFunc := { ntmps := 15, nargs := 3, kills := [[0, 7], [1, 2, 3, 8, 9, 10, 11, 12, 13, 14]], results := [.cell 6 3 false, .t 7], body := (.seq R_single_Approval_0 (.seq R_single_Approval_1 .ret)) }
abbrev k_single_Approval : Nat := 48
-- suffrage/single.Score
def R_single_Score_0 : AC := .ops false [⟨some 3, .box (.t 0), none, []⟩,
  ⟨some 6, .alloc [.lst 0 [] (some 0), .lst 0 [] (some 0), .lst 0 [] (some 0)], none, []⟩,
  ⟨some 7, .mov (.c (.int .i64 0)), none, []⟩] [0, 7]
def R_single_Score_1 : AC := .ops false [⟨some 8, .build [.int .u8 0, .nilf, .nilf] [(0, 1, .c (.int .u8 3)), (1, 1, .f 102), (2, 1, .f 101)], none, []⟩,
  ⟨some 9, .load 3 false (.t 3), none, []⟩,
  ⟨some 10, .mov (.t 1), none, []⟩,
  ⟨some 11, .mov (.t 2), none, []⟩,
  ⟨some 12, .call (.fn 100) [.t 8, .t 9, .t 10, .t 11], none, []⟩,
  ⟨some 13, .ext (.t 12) 0, none, []⟩,
  ⟨some 14, .ext (.t 12) 1, none, []⟩,
  ⟨none, .store 3 (.t 6) (.t 13), none, []⟩,
  ⟨some 7, .mov (.t 14), none, []⟩] [1, 2, 3, 8, 9, 10, 11, 12, 13, 14]
def F_single_Score : AFunc := { ntmps := 15, nargs := 3, kills := [[0, 7], [1, 2, 3, 8, 9, 10, 11, 12, 13, 14]], results := [.cell 6 3 false, .t 7], body := (.seq R_single_Score_0 (.seq R_single_Score_1 .ret)) }
abbrev k_single_Score : Nat := 49
-- suffrage/single.Borda
def R_single_Borda_0 : AC := .ops false [⟨some 3, .box (.t 0), none, []⟩,
  ⟨some 6, .alloc [.lst 0 [] (some 0), .lst 0 [] (some 0), .lst 0 [] (some 0)], none, []⟩,
  ⟨some 7, .mov (.c (.int .i64 0)), none, []⟩] [0, 7]
def R_single_Borda_1 : AC := .ops false [⟨some 8, .build [.int .u8 0, .nilf, .nilf] [(0, 1, .c (.int .u8 1)), (1, 1, .f 103), (2, 1, .f 101)], none, []⟩,
  ⟨some 9, .load 3 false (.t 3), none, []⟩,
  ⟨some 10, .mov (.t 1), none, []⟩,
  ⟨some 11, .mov (.t 2), none, []⟩,
  ⟨some 12, .call (.fn 100) [.t 8, .t 9, .t 10, .t 11], none, []⟩,
  ⟨some 13, .ext (.t 12) 0, none, []⟩,
  ⟨some 14, .ext (.t 12) 1, none, []⟩,
  ⟨none, .store 3 (.t 6) (.t 13), none, []⟩,
  ⟨some 7, .mov (.t 14), none, []⟩] [1, 2, 3, 8, 9, 10, 11, 12, 13, 14]
def F_single_Borda : AFunc := { ntmps := 15, nargs := 3, kills := [[0, 7], [1, 2, 3, 8, 9, 10, 11, 12, 13, 14]], results := [.cell 6 3 false, .t 7], body := (.seq R_single_Borda_0 (.seq R_single_Borda_1 .ret)) }
abbrev k_single_Borda : Nat := 50
-- suffrage/condorcet.Copeland
def R_condorcet_Copeland_0 : AC := .ops false [⟨some 3, .box (.t 0), none, []⟩,
  ⟨some 6, .alloc [.lst 0 [] (some 0), .lst 0 [] (some 0), .lst 0 [] (some 0)], none, []⟩,
  ⟨some 7, .mov (.c (.int .i64 0)), none, []⟩] [0, 7]
def R_condorcet_Copeland_1 : AC := .ops false [⟨some 9, .mkfn 104 [] [.t 3], none, []⟩,
  ⟨some 8, .mov (.t 9), none, []⟩] [9]
def R_condorcet_Copeland_2 : AC := .ops false [⟨some 10, .load 3 false (.t 3), none, []⟩,
  ⟨some 11, .mov (.t 1), none, []⟩,
  ⟨some 12, .mov (.t 2), none, []⟩,
  ⟨some 13, .mov (.t 8), none, []⟩,
  ⟨some 14, .call (.fn 106) [.t 10, .t 11, .t 12, .t 13, .f 107], none, []⟩,
  ⟨some 15, .ext (.t 14) 0, none, []⟩,
  ⟨some 16, .ext (.t 14) 1, none, []⟩,
  ⟨none, .store 3 (.t 6) (.t 15), none, []⟩,
  ⟨some 7, .mov (.t 16), none, []⟩] [1, 2, 3, 8, 10, 11, 12, 13, 14, 15, 16]
def F_condorcet_Copeland : AFunc := { ntmps := 17, nargs := 3, kills := [[0, 7], [9], [1, 2, 3, 8, 10, 11, 12, 13, 14, 15, 16]], results := [.cell 6 3 false, .t 7], body := (.seq R_condorcet_Copeland_0 (.seq R_condorcet_Copeland_1 (.seq R_condorcet_Copeland_2 .ret))) }
abbrev k_condorcet_Copeland : Nat := 51
-- suffrage/condorcet.Minimax
def R_condorcet_Minimax_0 : AC := .ops false [⟨some 3, .box (.t 0), none, []⟩,
  ⟨some 6, .alloc [.lst 0 [] (some 0), .lst 0 [] (some 0), .lst 0 [] (some 0)], none, []⟩,
  ⟨some 7, .mov (.c (.int .i64 0)), none, []⟩] [0, 7]
def R_condorcet_Minimax_1 : AC := .ops false [⟨some 9, .mkfn 108 [] [.t 3], none, []⟩,
  ⟨some 8, .mov (.t 9), none, []⟩] [9]
def R_condorcet_Minimax_2 : AC := .ops false [⟨some 10, .load 3 false (.t 3), none, []⟩,
  ⟨some 11, .mov (.t 1), none, []⟩,
  ⟨some 12, .mov (.t 2), none, []⟩,
  ⟨some 13, .mov (.t 8), none, []⟩,
  ⟨some 14, .call (.fn 106) [.t 10, .t 11, .t 12, .t 13, .f 109], none, []⟩,
  ⟨some 15, .ext (.t 14) 0, none, []⟩,
  ⟨some 16, .ext (.t 14) 1, none, []⟩,
  ⟨none, .store 3 (.t 6) (.t 15), none, []⟩,
  ⟨some 7, .mov (.t 16), none, []⟩] [1, 2, 3, 8, 10, 11, 12, 13, 14, 15, 16]
def F_condorcet_Minimax : AFunc := { ntmps := 17, nargs := 3, kills := [[0, 7], [9], [1, 2, 3, 8, 10, 11, 12, 13, 14, 15, 16]], results := [.cell 6 3 false, .t 7], body := (.seq R_condorcet_Minimax_0 (.seq R_condorcet_Minimax_1 (.seq R_condorcet_Minimax_2 .ret))) }
abbrev k_condorcet_Minimax : Nat := 52
-- suffrage/paths.Count
def R_paths_Count_0 : AC := .ops false [⟨some 3, .box (.t 0), none, []⟩,
  ⟨some 6, .alloc [.lst 0 [] (some 0), .lst 0 [] (some 0), .lst 0 [] (some 0)], none, []⟩,
  ⟨some 7, .mov (.c (.int .i64 0)), none, []⟩] [0, 7]
def R_paths_Count_1 : AC := .ops false [⟨some 18, .load 3 false (.t 3), none, []⟩,
  ⟨some 19, .mov (.t 1), none, []⟩,
  ⟨some 20, .mov (.t 2), none, []⟩,
  ⟨some 21, .call (.fn 110) [.t 18, .c (.int .u8 1), .t 19, .c (.int .i64 1), .t 20], none, []⟩,
  ⟨some 8, .mov (.t 21), none, []⟩] [1, 18, 19, 20, 21]
def R_paths_Count_2 : AC := .ops false [⟨some 22, .mov (.t 8), none, []⟩,
  ⟨some 23, .bin .neq (.t 22) (.c (.int .i64 0)), none, []⟩] [22]
def R_paths_Count_3 : AC := .ops false [⟨some 24, .build [.lst 0 [] (some 0), .lst 0 [] (some 0), .lst 0 [] (some 0)] [], none, []⟩,
  ⟨some 25, .mov (.t 8), none, []⟩,
  ⟨none, .store 3 (.t 6) (.t 24), none, []⟩,
  ⟨some 7, .mov (.t 25), none, []⟩] [2, 3, 8, 23, 24, 25]
def R_paths_Count_4 : AC := .ops false [⟨some 27, .load 3 false (.t 3), none, []⟩,
  ⟨some 28, .call (.fn 111) [.t 27], none, []⟩,
  ⟨some 26, .mov (.t 28), none, []⟩,
  ⟨some 29, .ext (.t 26) 0, none, []⟩,
  ⟨some 30, .ext (.t 26) 1, none, []⟩,
  ⟨some 9, .alloc [.int .i64 0, .int .i64 0, .int .i64 0, .int .i64 0, .int .i64 0, .int .i64 0, .int .i64 0, .int .i64 0, .int .i64 0, .int .i64 0, .int .i64 0, .int .i64 0, .int .i64 0, .int .i64 0, .int .i64 0, .int .i64 0, .int .i64 0, .int .i64 0, .int .i64 0, .int .i64 0, .int .i64 0, .int .i64 0, .int .i64 0, .int .i64 0, .int .i64 0, .int .i64 0, .int .i64 0, .int .i64 0, .int .i64 0, .int .i64 0, .int .i64 0, .int .i64 0, .int .i64 0, .int .i64 0, .int .i64 0, .int .i64 0, .int .i64 0, .int .i64 0, .int .i64 0, .int .i64 0, .int .i64 0, .int .i64 0, .int .i64 0, .int .i64 0, .int .i64 0, .int .i64 0, .int .i64 0, .int .i64 0, .int .i64 0, .int .i64 0, .int .i64 0, .int .i64 0, .int .i64 0, .int .i64 0, .int .i64 0, .int .i64 0, .int .i64 0, .int .i64 0, .int .i64 0, .int .i64 0, .int .i64 0, .int .i64 0, .int .i64 0, .int .i64 0, .int .i64 0, .int .i64 0, .int .i64 0, .int .i64 0, .int .i64 0, .int .i64 0, .int .i64 0, .int .i64 0, .int .i64 0, .int .i64 0, .int .i64 0, .int .i64 0, .int .i64 0, .int .i64 0, .int .i64 0, .int .i64 0, .int .i64 0, .int .i64 0, .int .i64 0, .int .i64 0, .int .i64 0, .int .i64 0, .int .i64 0, .int .i64 0, .int .i64 0, .int .i64 0, .int .i64 0, .int .i64 0, .int .i64 0, .int .i64 0, .int .i64 0, .int .i64 0, .int .i64 0, .int .i64 0, .int .i64 0, .int .i64 0], none, []⟩,
  ⟨none, .store 100 (.t 9) (.t 29), none, []⟩,
  ⟨some 10, .mov (.t 30), none, []⟩] [8, 10, 23, 26, 27, 28, 29, 30]
def R_paths_Count_5 : AC := .ops false [⟨some 32, .load 100 false (.t 9), none, []⟩,
  ⟨some 33, .fa (.t 3) 0, none, []⟩,
  ⟨some 34, .load 1 true (.t 33), none, []⟩,
  ⟨some 35, .call (.fn 112) [.t 32, .t 34], none, []⟩,
  ⟨some 31, .mov (.t 35), none, []⟩,
  ⟨some 36, .ext (.t 31) 0, none, []⟩,
  ⟨some 37, .ext (.t 31) 1, none, []⟩,
  ⟨some 11, .alloc [.int .i64 0, .int .i64 0, .int .i64 0, .int .i64 0, .int .i64 0, .int .i64 0, .int .i64 0, .int .i64 0, .int .i64 0, .int .i64 0, .int .i64 0, .int .i64 0, .int .i64 0, .int .i64 0, .int .i64 0, .int .i64 0, .int .i64 0, .int .i64 0, .int .i64 0, .int .i64 0, .int .i64 0, .int .i64 0, .int .i64 0, .int .i64 0, .int .i64 0, .int .i64 0, .int .i64 0, .int .i64 0, .int .i64 0, .int .i64 0, .int .i64 0, .int .i64 0, .int .i64 0, .int .i64 0, .int .i64 0, .int .i64 0, .int .i64 0, .int .i64 0, .int .i64 0, .int .i64 0, .int .i64 0, .int .i64 0, .int .i64 0, .int .i64 0, .int .i64 0, .int .i64 0, .int .i64 0, .int .i64 0, .int .i64 0, .int .i64 0, .int .i64 0, .int .i64 0, .int .i64 0, .int .i64 0, .int .i64 0, .int .i64 0, .int .i64 0, .int .i64 0, .int .i64 0, .int .i64 0, .int .i64 0, .int .i64 0, .int .i64 0, .int .i64 0, .int .i64 0, .int .i64 0, .int .i64 0, .int .i64 0, .int .i64 0, .int .i64 0, .int .i64 0, .int .i64 0, .int .i64 0, .int .i64 0, .int .i64 0, .int .i64 0, .int .i64 0, .int .i64 0, .int .i64 0, .int .i64 0, .int .i64 0, .int .i64 0, .int .i64 0, .int .i64 0, .int .i64 0, .int .i64 0, .int .i64 0, .int .i64 0, .int .i64 0, .int .i64 0, .int .i64 0, .int .i64 0, .int .i64 0, .int .i64 0, .int .i64 0, .int .i64 0, .int .i64 0, .int .i64 0, .int .i64 0, .int .i64 0], none, []⟩,
  ⟨none, .store 100 (.t 11) (.t 36), none, []⟩,
  ⟨some 12, .mov (.t 37), none, []⟩] [9, 12, 31, 32, 33, 34, 35, 36, 37]
def R_paths_Count_6 : AC := .ops false [⟨some 38, .fa (.t 3) 0, none, []⟩,
  ⟨some 39, .load 1 true (.t 38), none, []⟩,
  ⟨some 40, .mkslice 1 8 [.int .i64 0] (.t 39) (.t 39), none, []⟩,
  ⟨some 13, .alloc [.lst 0 [] (some 0)], none, []⟩,
  ⟨none, .store 1 (.t 13) (.t 40), none, []⟩] [38, 39, 40]
def R_paths_Count_7 : AC := .ops false [⟨some 41, .load 1 true (.t 13), none, []⟩,
  ⟨some 42, .len (.t 41), none, []⟩,
  ⟨some 43, .mov (.c (.int .i64 0)), none, []⟩] [41]
def R_paths_Count_8 : AC := .ops false [⟨some 44, .bin .lss (.t 43) (.t 42), none, []⟩] []
def R_paths_Count_9 : AC := .ops false [⟨some 45, .mov (.t 43), none, []⟩,
  ⟨some 14, .mov (.t 45), none, []⟩] [44, 45]
def R_paths_Count_10 : AC := .ops false [⟨some 46, .load 1 true (.t 13), none, []⟩,
  ⟨some 47, .len (.t 46), none, []⟩,
  ⟨some 48, .mov (.c (.int .i64 0)), none, []⟩] [46]
def R_paths_Count_11 : AC := .ops false [⟨some 49, .bin .lss (.t 48) (.t 47), none, []⟩] []
def R_paths_Count_12 : AC := .ops false [⟨some 50, .mov (.t 48), none, []⟩,
  ⟨some 15, .mov (.t 50), none, []⟩] [49, 50]
def R_paths_Count_13 : AC := .ops true [⟨some 51, .mov (.t 14), none, []⟩,
  ⟨some 52, .mov (.t 15), none, []⟩,
  ⟨some 53, .bin .neq (.t 51) (.t 52), none, [0, 1]⟩,
  ⟨some 54, .mov (.t 53), none, [2]⟩,
  ⟨some 55, .mov (.t 14), some (54, true), [3]⟩,
  ⟨some 56, .mov (.t 15), some (54, true), [3]⟩,
  ⟨some 57, .iaa 10 10 (.t 11) (.t 55), some (54, true), [4, 3]⟩,
  ⟨some 58, .iaa 1 10 (.t 57) (.t 56), some (54, true), [6, 5, 3]⟩,
  ⟨some 59, .load 1 true (.t 58), some (54, true), [7, 3]⟩,
  ⟨some 60, .mov (.t 15), some (54, true), [3]⟩,
  ⟨some 61, .mov (.t 14), some (54, true), [3]⟩,
  ⟨some 62, .iaa 10 10 (.t 11) (.t 60), some (54, true), [9, 3]⟩,
  ⟨some 63, .iaa 1 10 (.t 62) (.t 61), some (54, true), [11, 10, 3]⟩,
  ⟨some 64, .load 1 true (.t 63), some (54, true), [12, 3]⟩,
  ⟨some 65, .bin .geq (.t 59) (.t 64), some (54, true), [8, 13, 3]⟩,
  ⟨some 66, .pick (.t 54) (.t 65) (.c (.bool false)), none, [3, 14]⟩] [15, 51, 52, 53, 54, 55, 56, 57, 58, 59, 60, 61, 62, 63, 64, 65]
def R_paths_Count_14 : AC := .ops false [⟨some 67, .load 1 true (.t 13), none, []⟩,
  ⟨some 68, .mov (.t 14), none, []⟩,
  ⟨some 69, .ia 1 (.t 67) (.t 68), none, []⟩,
  ⟨some 70, .load 1 true (.t 69), none, []⟩,
  ⟨some 71, .bin .add (.t 70) (.c (.int .i64 1)), none, []⟩,
  ⟨some 72, .ia 1 (.t 67) (.t 68), none, []⟩,
  ⟨none, .store 1 (.t 72) (.t 71), none, []⟩] [66, 67, 68, 69, 70, 71, 72]
def R_paths_Count_15 : AC := .ops false [⟨some 73, .bin .add (.t 48) (.c (.int .i64 1)), none, []⟩,
  ⟨some 48, .mov (.t 73), none, []⟩] [66, 73]
def L_paths_Count_1 : AC := (.seq R_paths_Count_11 (.seq (.cond (.t 49) .skip (.exit 2)) (.seq (.block 3 (.seq R_paths_Count_12 (.seq R_paths_Count_13 (.cond (.t 66) R_paths_Count_14 .skip)))) R_paths_Count_15)))
def R_paths_Count_16 : AC := .ops false [⟨some 74, .bin .add (.t 43) (.c (.int .i64 1)), none, []⟩,
  ⟨some 43, .mov (.t 74), none, []⟩] [14, 47, 48, 49, 74]
def L_paths_Count_2 : AC := (.seq R_paths_Count_8 (.seq (.cond (.t 44) .skip (.exit 0)) (.seq (.block 1 (.seq R_paths_Count_9 (.seq R_paths_Count_10 (.block 2 (.loop L_paths_Count_1))))) R_paths_Count_16)))
def R_paths_Count_17 : AC := .ops false [⟨some 75, .mov (.t 2), none, []⟩,
  ⟨some 76, .call (.fn 113) [.t 75], none, []⟩,
  ⟨some 16, .mov (.t 76), none, []⟩] [2, 11, 42, 43, 44, 75, 76]
def R_paths_Count_18 : AC := .ops false [⟨some 77, .mov (.t 16), none, []⟩,
  ⟨some 78, .fa (.t 3) 0, none, []⟩,
  ⟨some 79, .load 1 true (.t 78), none, []⟩,
  ⟨some 80, .call (.fn 116) [.t 79], none, []⟩,
  ⟨some 81, .mkfn 117 [] [.t 13], none, []⟩,
  ⟨some 82, .call (.fn 115) [.t 80, .t 81], none, []⟩,
  ⟨some 83, .call (.fn 114) [.t 77, .t 82], none, []⟩,
  ⟨some 17, .mov (.t 83), none, []⟩] [3, 77, 78, 79, 80, 81, 82, 83]
def R_paths_Count_19 : AC := .ops false [⟨some 84, .mov (.t 16), none, []⟩,
  ⟨some 85, .mov (.t 17), none, []⟩,
  ⟨some 86, .bslice 1 [.int .i64 0] 1 [(0, .t 85)], none, []⟩,
  ⟨some 87, .nilchk (.t 84), none, []⟩,
  ⟨some 88, .fa (.t 87) 0, none, []⟩,
  ⟨some 89, .fa (.t 88) 0, none, []⟩,
  ⟨none, .store 1 (.t 89) (.t 86), none, []⟩] [84, 85, 86, 87, 88, 89]
def R_paths_Count_20 : AC := .ops false [⟨some 90, .mov (.t 16), none, []⟩,
  ⟨some 91, .load 1 true (.t 13), none, []⟩,
  ⟨some 92, .call (.fn 118) [.t 91], none, []⟩,
  ⟨some 93, .call (.fn 31) [.c (.int .i64 0)], none, []⟩,
  ⟨some 94, .mov (.t 17), none, []⟩,
  ⟨some 95, .bslice 1 [.int .i64 0] 1 [(0, .t 94)], none, []⟩,
  ⟨some 96, .build [.lst 0 [] (some 0), .bool false, .lst 0 [] (some 0), .lst 0 [] (some 0), .lst 0 [] (some 0), .lst 0 [] (some 0)] [(0, 1, .t 92), (1, 3, .t 93), (4, 1, .t 95)], none, []⟩,
  ⟨some 97, .bslice 6 [.lst 0 [] (some 0), .bool false, .lst 0 [] (some 0), .lst 0 [] (some 0), .lst 0 [] (some 0), .lst 0 [] (some 0)] 1 [(0, .t 96)], none, []⟩,
  ⟨some 98, .nilchk (.t 90), none, []⟩,
  ⟨some 99, .fa (.t 98) 0, none, []⟩,
  ⟨some 100, .fa (.t 99) 1, none, []⟩,
  ⟨none, .store 1 (.t 100) (.t 97), none, []⟩] [13, 17, 90, 91, 92, 93, 94, 95, 96, 97, 98, 99, 100]
def R_paths_Count_21 : AC := .ops false [⟨some 101, .mov (.t 16), none, []⟩,
  ⟨some 102, .nilchk (.t 101), none, []⟩,
  ⟨some 103, .fa (.t 102) 0, none, []⟩,
  ⟨some 104, .load 3 false (.t 103), none, []⟩,
  ⟨none, .store 3 (.t 6) (.t 104), none, []⟩,
  ⟨some 7, .mov (.c (.int .i64 0)), none, []⟩] [16, 101, 102, 103, 104]
def F_paths_Count : AFunc := { ntmps := 105, nargs := 3, kills := [[0, 7], [1, 18, 19, 20, 21], [22], [2, 3, 8, 23, 24, 25], [8, 10, 23, 26, 27, 28, 29, 30], [9, 12, 31, 32, 33, 34, 35, 36, 37], [38, 39, 40], [41], [], [44, 45], [46], [], [49, 50], [15, 51, 52, 53, 54, 55, 56, 57, 58, 59, 60, 61, 62, 63, 64, 65], [66, 67, 68, 69, 70, 71, 72], [66, 73], [14, 47, 48, 49, 74], [2, 11, 42, 43, 44, 75, 76], [3, 77, 78, 79, 80, 81, 82, 83], [84, 85, 86, 87, 88, 89], [13, 17, 90, 91, 92, 93, 94, 95, 96, 97, 98, 99, 100], [16, 101, 102, 103, 104]], results := [.cell 6 3 false, .t 7], body := (.seq R_paths_Count_0 (.seq (.seq R_paths_Count_1 (.seq R_paths_Count_2 (.cond (.t 23) (.seq R_paths_Count_3 .ret) .skip))) (.seq R_paths_Count_4 (.seq R_paths_Count_5 (.seq R_paths_Count_6 (.seq (.seq R_paths_Count_7 (.block 0 (.loop L_paths_Count_2))) (.seq R_paths_Count_17 (.seq R_paths_Count_18 (.seq R_paths_Count_19 (.seq R_paths_Count_20 (.seq R_paths_Count_21 .ret))))))))))) }
abbrev k_paths_Count : Nat := 53
-- suffrage/ranked.Count
def R_ranked_Count_0 : AC := .ops false [⟨some 3, .box (.t 0), none, []⟩,
  ⟨some 6, .alloc [.lst 0 [] (some 0), .lst 0 [] (some 0), .lst 0 [] (some 0)], none, []⟩,
  ⟨some 7, .mov (.c (.int .i64 0)), none, []⟩] [0, 7]
def R_ranked_Count_1 : AC := .ops false [⟨some 19, .load 3 false (.t 3), none, []⟩,
  ⟨some 20, .mov (.t 1), none, []⟩,
  ⟨some 21, .mov (.t 2), none, []⟩,
  ⟨some 22, .call (.fn 110) [.t 19, .c (.int .u8 1), .t 20, .c (.int .i64 1), .t 21], none, []⟩,
  ⟨some 8, .mov (.t 22), none, []⟩] [1, 19, 20, 21, 22]
def R_ranked_Count_2 : AC := .ops false [⟨some 23, .mov (.t 8), none, []⟩,
  ⟨some 24, .bin .neq (.t 23) (.c (.int .i64 0)), none, []⟩] [23]
def R_ranked_Count_3 : AC := .ops false [⟨some 25, .build [.lst 0 [] (some 0), .lst 0 [] (some 0), .lst 0 [] (some 0)] [], none, []⟩,
  ⟨some 26, .mov (.t 8), none, []⟩,
  ⟨none, .store 3 (.t 6) (.t 25), none, []⟩,
  ⟨some 7, .mov (.t 26), none, []⟩] [2, 3, 8, 24, 25, 26]
def R_ranked_Count_4 : AC := .ops false [⟨some 28, .load 3 false (.t 3), none, []⟩,
  ⟨some 29, .call (.fn 111) [.t 28], none, []⟩,
  ⟨some 27, .mov (.t 29), none, []⟩,
  ⟨some 30, .ext (.t 27) 0, none, []⟩,
  ⟨some 31, .ext (.t 27) 1, none, []⟩,
  ⟨some 9, .alloc [.int .i64 0, .int .i64 0, .int .i64 0, .int .i64 0, .int .i64 0, .int .i64 0, .int .i64 0, .int .i64 0, .int .i64 0, .int .i64 0, .int .i64 0, .int .i64 0, .int .i64 0, .int .i64 0, .int .i64 0, .int .i64 0, .int .i64 0, .int .i64 0, .int .i64 0, .int .i64 0, .int .i64 0, .int .i64 0, .int .i64 0, .int .i64 0, .int .i64 0, .int .i64 0, .int .i64 0, .int .i64 0, .int .i64 0, .int .i64 0, .int .i64 0, .int .i64 0, .int .i64 0, .int .i64 0, .int .i64 0, .int .i64 0, .int .i64 0, .int .i64 0, .int .i64 0, .int .i64 0, .int .i64 0, .int .i64 0, .int .i64 0, .int .i64 0, .int .i64 0, .int .i64 0, .int .i64 0, .int .i64 0, .int .i64 0, .int .i64 0, .int .i64 0, .int .i64 0, .int .i64 0, .int .i64 0, .int .i64 0, .int .i64 0, .int .i64 0, .int .i64 0, .int .i64 0, .int .i64 0, .int .i64 0, .int .i64 0, .int .i64 0, .int .i64 0, .int .i64 0, .int .i64 0, .int .i64 0, .int .i64 0, .int .i64 0, .int .i64 0, .int .i64 0, .int .i64 0, .int .i64 0, .int .i64 0, .int .i64 0, .int .i64 0, .int .i64 0, .int .i64 0, .int .i64 0, .int .i64 0, .int .i64 0, .int .i64 0, .int .i64 0, .int .i64 0, .int .i64 0, .int .i64 0, .int .i64 0, .int .i64 0, .int .i64 0, .int .i64 0, .int .i64 0, .int .i64 0, .int .i64 0, .int .i64 0, .int .i64 0, .int .i64 0, .int .i64 0, .int .i64 0, .int .i64 0, .int .i64 0], none, []⟩,
  ⟨none, .store 100 (.t 9) (.t 30), none, []⟩,
  ⟨some 10, .mov (.t 31), none, []⟩] [8, 10, 24, 27, 28, 29, 30, 31]
def R_ranked_Count_5 : AC := .ops false [⟨some 33, .load 100 false (.t 9), none, []⟩,
  ⟨some 34, .fa (.t 3) 0, none, []⟩,
  ⟨some 35, .load 1 true (.t 34), none, []⟩,
  ⟨some 36, .mov (.t 2), none, []⟩,
  ⟨some 37, .call (.fn 119) [.t 33, .t 35, .t 36], none, []⟩,
  ⟨some 32, .mov (.t 37), none, []⟩,
  ⟨some 38, .ext (.t 32) 0, none, []⟩,
  ⟨some 39, .ext (.t 32) 1, none, []⟩,
  ⟨some 11, .mov (.t 38), none, []⟩,
  ⟨some 12, .mov (.t 39), none, []⟩] [9, 12, 32, 33, 34, 35, 36, 37, 38, 39]
def R_ranked_Count_6 : AC := .ops true [⟨some 40, .fa (.t 3) 0, none, []⟩,
  ⟨some 41, .load 1 true (.t 40), none, [0]⟩,
  ⟨some 42, .mkslice 1 8 [.int .i64 0] (.t 41) (.t 41), none, [1, 1]⟩,
  ⟨some 43, .fa (.t 3) 0, none, []⟩,
  ⟨some 44, .load 1 true (.t 43), none, [3]⟩,
  ⟨some 45, .call (.fn 116) [.t 44], none, [4]⟩,
  ⟨some 13, .mov (.t 42), none, [2, 5, 0, 1, 2]⟩,
  ⟨some 14, .mov (.t 45), none, [5, 6, 0, 1, 2, 3, 4, 5, 6]⟩] [3, 40, 41, 42, 43, 44, 45]
def R_ranked_Count_7 : AC := .ops false [⟨some 46, .mov (.t 11), none, []⟩,
  ⟨some 47, .len (.t 46), none, []⟩,
  ⟨some 48, .mov (.c (.int .i64 0)), none, []⟩] []
def R_ranked_Count_8 : AC := .ops false [⟨some 49, .bin .lss (.t 48) (.t 47), none, []⟩] []
def R_ranked_Count_9 : AC := .ops false [⟨some 50, .mov (.t 48), none, []⟩,
  ⟨some 51, .ia 4 (.t 46) (.t 48), none, []⟩,
  ⟨some 52, .load 4 false (.t 51), none, []⟩,
  ⟨some 16, .alloc [.int .i64 0, .int .i64 0, .int .i64 0, .int .i64 0], none, []⟩,
  ⟨some 15, .mov (.t 50), none, []⟩,
  ⟨none, .store 4 (.t 16) (.t 52), none, []⟩] [49, 50, 51, 52]
def R_ranked_Count_10 : AC := .ops true [⟨some 53, .mov (.t 11), none, []⟩,
  ⟨some 54, .mov (.t 15), none, []⟩,
  ⟨some 55, .slice 4 (.t 53) none (some (.t 54)) none, none, [0, 1]⟩,
  ⟨some 56, .load 4 false (.t 16), none, []⟩,
  ⟨some 57, .call (.fn 120) [.t 55, .t 56], none, [2, 3]⟩,
  ⟨some 58, .un .not (.t 57), none, [4]⟩] [15, 53, 54, 55, 56, 57]
def R_ranked_Count_11 : AC := .ops false [⟨some 59, .mov (.t 13), none, []⟩,
  ⟨some 60, .fa (.t 16) 0, none, []⟩,
  ⟨some 61, .load 1 true (.t 60), none, []⟩,
  ⟨some 62, .ia 1 (.t 59) (.t 61), none, []⟩,
  ⟨some 63, .load 1 true (.t 62), none, []⟩,
  ⟨some 64, .bin .add (.t 63) (.c (.int .i64 1)), none, []⟩,
  ⟨some 65, .ia 1 (.t 59) (.t 61), none, []⟩,
  ⟨none, .store 1 (.t 65) (.t 64), none, []⟩] [58, 59, 60, 61, 62, 63, 64, 65]
def R_ranked_Count_12 : AC := .ops false [⟨some 66, .mov (.t 14), none, []⟩,
  ⟨some 67, .mkfn 122 [] [.t 16], none, []⟩,
  ⟨some 68, .call (.fn 121) [.t 66, .t 67], none, []⟩,
  ⟨some 14, .mov (.t 68), none, []⟩] [16, 58, 66, 67, 68]
def R_ranked_Count_13 : AC := .ops false [⟨some 69, .bin .add (.t 48) (.c (.int .i64 1)), none, []⟩,
  ⟨some 48, .mov (.t 69), none, []⟩] [69]
def L_ranked_Count_1 : AC := (.seq R_ranked_Count_8 (.seq (.cond (.t 49) .skip (.exit 0)) (.seq (.block 1 (.seq R_ranked_Count_9 (.seq (.seq R_ranked_Count_10 (.cond (.t 58) R_ranked_Count_11 .skip)) R_ranked_Count_12))) R_ranked_Count_13)))
def R_ranked_Count_14 : AC := .ops false [⟨some 70, .mov (.t 2), none, []⟩,
  ⟨some 71, .call (.fn 113) [.t 70], none, []⟩,
  ⟨some 17, .mov (.t 71), none, []⟩] [2, 11, 46, 47, 48, 49, 70, 71]
def R_ranked_Count_15 : AC := .ops false [⟨some 72, .mov (.t 17), none, []⟩,
  ⟨some 73, .mov (.t 14), none, []⟩,
  ⟨some 74, .call (.fn 114) [.t 72, .t 73], none, []⟩,
  ⟨some 18, .mov (.t 74), none, []⟩] [14, 72, 73, 74]
def R_ranked_Count_16 : AC := .ops false [⟨some 75, .mov (.t 17), none, []⟩,
  ⟨some 76, .mov (.t 18), none, []⟩,
  ⟨some 77, .bslice 1 [.int .i64 0] 1 [(0, .t 76)], none, []⟩,
  ⟨some 78, .nilchk (.t 75), none, []⟩,
  ⟨some 79, .fa (.t 78) 0, none, []⟩,
  ⟨some 80, .fa (.t 79) 0, none, []⟩,
  ⟨none, .store 1 (.t 80) (.t 77), none, []⟩] [75, 76, 77, 78, 79, 80]
def R_ranked_Count_17 : AC := .ops false [⟨some 81, .mov (.t 17), none, []⟩,
  ⟨some 82, .mov (.t 13), none, []⟩,
  ⟨some 83, .call (.fn 118) [.t 82], none, []⟩,
  ⟨some 84, .call (.fn 31) [.c (.int .i64 0)], none, []⟩,
  ⟨some 85, .mov (.t 18), none, []⟩,
  ⟨some 86, .bslice 1 [.int .i64 0] 1 [(0, .t 85)], none, []⟩,
  ⟨some 87, .build [.lst 0 [] (some 0), .bool false, .lst 0 [] (some 0), .lst 0 [] (some 0), .lst 0 [] (some 0), .lst 0 [] (some 0)] [(0, 1, .t 83), (1, 3, .t 84), (4, 1, .t 86)], none, []⟩,
  ⟨some 88, .bslice 6 [.lst 0 [] (some 0), .bool false, .lst 0 [] (some 0), .lst 0 [] (some 0), .lst 0 [] (some 0), .lst 0 [] (some 0)] 1 [(0, .t 87)], none, []⟩,
  ⟨some 89, .nilchk (.t 81), none, []⟩,
  ⟨some 90, .fa (.t 89) 0, none, []⟩,
  ⟨some 91, .fa (.t 90) 1, none, []⟩,
  ⟨none, .store 1 (.t 91) (.t 88), none, []⟩] [13, 18, 81, 82, 83, 84, 85, 86, 87, 88, 89, 90, 91]
def R_ranked_Count_18 : AC := .ops false [⟨some 92, .mov (.t 17), none, []⟩,
  ⟨some 93, .nilchk (.t 92), none, []⟩,
  ⟨some 94, .fa (.t 93) 0, none, []⟩,
  ⟨some 95, .load 3 false (.t 94), none, []⟩,
  ⟨none, .store 3 (.t 6) (.t 95), none, []⟩,
  ⟨some 7, .mov (.c (.int .i64 0)), none, []⟩] [17, 92, 93, 94, 95]
def F_ranked_Count : AFunc := { ntmps := 96, nargs := 3, kills := [[0, 7], [1, 19, 20, 21, 22], [23], [2, 3, 8, 24, 25, 26], [8, 10, 24, 27, 28, 29, 30, 31], [9, 12, 32, 33, 34, 35, 36, 37, 38, 39], [3, 40, 41, 42, 43, 44, 45], [], [], [49, 50, 51, 52], [15, 53, 54, 55, 56, 57], [58, 59, 60, 61, 62, 63, 64, 65], [16, 58, 66, 67, 68], [69], [2, 11, 46, 47, 48, 49, 70, 71], [14, 72, 73, 74], [75, 76, 77, 78, 79, 80], [13, 18, 81, 82, 83, 84, 85, 86, 87, 88, 89, 90, 91], [17, 92, 93, 94, 95]], results := [.cell 6 3 false, .t 7], body := (.seq R_ranked_Count_0 (.seq (.seq R_ranked_Count_1 (.seq R_ranked_Count_2 (.cond (.t 24) (.seq R_ranked_Count_3 .ret) .skip))) (.seq R_ranked_Count_4 (.seq R_ranked_Count_5 (.seq R_ranked_Count_6 (.seq (.seq R_ranked_Count_7 (.block 0 (.loop L_ranked_Count_1))) (.seq R_ranked_Count_14 (.seq R_ranked_Count_15 (.seq R_ranked_Count_16 (.seq R_ranked_Count_17 (.seq R_ranked_Count_18 .ret))))))))))) }
abbrev k_ranked_Count : Nat := 54
-- suffrage/runoff.Count
def R_runoff_Count_0 : AC := .ops false [⟨some 3, .box (.t 0), none, []⟩,
  ⟨some 6, .alloc [.lst 0 [] (some 0), .lst 0 [] (some 0), .lst 0 [] (some 0)], none, []⟩,
  ⟨some 7, .mov (.c (.int .i64 0)), none, []⟩] [0, 7]
def R_runoff_Count_1 : AC := .ops false [⟨some 10, .load 3 false (.t 3), none, []⟩,
  ⟨some 11, .mov (.t 1), none, []⟩,
  ⟨some 12, .mov (.t 2), none, []⟩,
  ⟨some 13, .call (.fn 110) [.t 10, .c (.int .u8 1), .t 11, .c (.int .i64 1), .t 12], none, []⟩,
  ⟨some 8, .mov (.t 13), none, []⟩] [1, 10, 11, 12, 13]
def R_runoff_Count_2 : AC := .ops false [⟨some 14, .mov (.t 8), none, []⟩,
  ⟨some 15, .bin .neq (.t 14) (.c (.int .i64 0)), none, []⟩] [14]
def R_runoff_Count_3 : AC := .ops false [⟨some 16, .build [.lst 0 [] (some 0), .lst 0 [] (some 0), .lst 0 [] (some 0)] [], none, []⟩,
  ⟨some 17, .mov (.t 8), none, []⟩,
  ⟨none, .store 3 (.t 6) (.t 16), none, []⟩,
  ⟨some 7, .mov (.t 17), none, []⟩] [2, 3, 8, 15, 16, 17]
def R_runoff_Count_4 : AC := .ops true [⟨some 18, .mov (.t 2), none, []⟩,
  ⟨some 19, .call (.fn 113) [.t 18], none, [0]⟩,
  ⟨some 20, .load 3 false (.t 3), none, []⟩,
  ⟨some 21, .fa (.t 3) 0, none, []⟩,
  ⟨some 22, .load 1 true (.t 21), none, [3]⟩,
  ⟨some 23, .call (.fn 116) [.t 22], none, [4, 1]⟩,
  ⟨some 24, .build [.nilp, .int .i64 0, .int .u8 0, .lst 0 [] (some 0), .lst 0 [] (some 0)] [(0, 1, .t 19), (1, 3, .t 20), (4, 1, .t 23)], none, [1, 2, 5]⟩,
  ⟨some 25, .box (.t 24), none, [6]⟩,
  ⟨some 9, .mov (.t 25), none, [7, 5, 0, 1, 2, 3, 4, 5, 6, 7]⟩] [2, 3, 8, 15, 18, 19, 20, 21, 22, 23, 24, 25]
def R_runoff_Count_5 : AC := .ops false [⟨some 26, .mov (.t 9), none, []⟩,
  ⟨some 27, .call (.fn 123) [.t 26], none, []⟩,
  ⟨some 28, .un .not (.t 27), none, []⟩] [26, 27]
def L_runoff_Count_1 : AC := (.seq (.seq R_runoff_Count_5 (.cond (.t 28) .skip (.exit 0))) (.block 1 .skip))
def R_runoff_Count_6 : AC := .ops false [⟨some 29, .mov (.t 9), none, []⟩,
  ⟨some 30, .nilchk (.t 29), none, []⟩,
  ⟨some 31, .fa (.t 30) 0, none, []⟩,
  ⟨some 32, .load 1 true (.t 31), none, []⟩,
  ⟨some 33, .nilchk (.t 32), none, []⟩,
  ⟨some 34, .fa (.t 33) 0, none, []⟩,
  ⟨some 35, .load 3 false (.t 34), none, []⟩,
  ⟨none, .store 3 (.t 6) (.t 35), none, []⟩,
  ⟨some 7, .mov (.c (.int .i64 0)), none, []⟩] [9, 28, 29, 30, 31, 32, 33, 34, 35]
def F_runoff_Count : AFunc := { ntmps := 36, nargs := 3, kills := [[0, 7], [1, 10, 11, 12, 13], [14], [2, 3, 8, 15, 16, 17], [2, 3, 8, 15, 18, 19, 20, 21, 22, 23, 24, 25], [26, 27], [9, 28, 29, 30, 31, 32, 33, 34, 35]], results := [.cell 6 3 false, .t 7], body := (.seq R_runoff_Count_0 (.seq (.seq R_runoff_Count_1 (.seq R_runoff_Count_2 (.cond (.t 15) (.seq R_runoff_Count_3 .ret) .skip))) (.seq R_runoff_Count_4 (.seq (.block 0 (.loop L_runoff_Count_1)) (.seq R_runoff_Count_6 .ret))))) }
abbrev k_runoff_Count : Nat := 55
-- suffrage/coombs.Count
def R_coombs_Count_0 : AC := .ops false [⟨some 3, .box (.t 0), none, []⟩,
  ⟨some 6, .alloc [.lst 0 [] (some 0), .lst 0 [] (some 0), .lst 0 [] (some 0)], none, []⟩,
  ⟨some 7, .mov (.c (.int .i64 0)), none, []⟩] [0, 7]
def R_coombs_Count_1 : AC := .ops false [⟨some 9, .load 3 false (.t 3), none, []⟩,
  ⟨some 10, .mov (.t 1), none, []⟩,
  ⟨some 11, .mov (.t 2), none, []⟩,
  ⟨some 12, .call (.fn 110) [.t 9, .c (.int .u8 1), .t 10, .c (.int .i64 1), .t 11], none, []⟩,
  ⟨some 8, .mov (.t 12), none, []⟩] [1, 9, 10, 11, 12]
def R_coombs_Count_2 : AC := .ops false [⟨some 13, .mov (.t 8), none, []⟩,
  ⟨some 14, .bin .neq (.t 13) (.c (.int .i64 0)), none, []⟩] [13]
def R_coombs_Count_3 : AC := .ops false [⟨some 15, .build [.lst 0 [] (some 0), .lst 0 [] (some 0), .lst 0 [] (some 0)] [], none, []⟩,
  ⟨some 16, .mov (.t 8), none, []⟩,
  ⟨none, .store 3 (.t 6) (.t 15), none, []⟩,
  ⟨some 7, .mov (.t 16), none, []⟩] [2, 3, 8, 14, 15, 16]
def R_coombs_Count_4 : AC := .ops false [⟨some 17, .load 3 false (.t 3), none, []⟩,
  ⟨some 18, .mov (.t 2), none, []⟩,
  ⟨some 19, .load 3 false (.t 3), none, []⟩,
  ⟨some 20, .build [.int .i64 0, .int .u8 0, .lst 0 [] (some 0)] [(0, 3, .t 19)], none, []⟩,
  ⟨some 21, .mkiface 200 (.t 20), none, []⟩,
  ⟨some 22, .call (.fn 124) [.t 17, .t 18, .t 21], none, []⟩,
  ⟨none, .store 3 (.t 6) (.t 22), none, []⟩,
  ⟨some 7, .mov (.c (.int .i64 0)), none, []⟩] [2, 3, 8, 14, 17, 18, 19, 20, 21, 22]
def F_coombs_Count : AFunc := { ntmps := 23, nargs := 3, kills := [[0, 7], [1, 9, 10, 11, 12], [13], [2, 3, 8, 14, 15, 16], [2, 3, 8, 14, 17, 18, 19, 20, 21, 22]], results := [.cell 6 3 false, .t 7], body := (.seq R_coombs_Count_0 (.seq (.seq R_coombs_Count_1 (.seq R_coombs_Count_2 (.cond (.t 14) (.seq R_coombs_Count_3 .ret) .skip))) (.seq R_coombs_Count_4 .ret))) }
abbrev k_coombs_Count : Nat := 56
-- suffrage/gregory.Count
def R_gregory_Count_0 : AC := .ops false [⟨some 3, .box (.t 0), none, []⟩,
  ⟨some 6, .alloc [.lst 0 [] (some 0), .lst 0 [] (some 0), .lst 0 [] (some 0)], none, []⟩,
  ⟨some 7, .mov (.c (.int .i64 0)), none, []⟩] [0, 7]
def R_gregory_Count_1 : AC := .ops false [⟨some 14, .load 3 false (.t 3), none, []⟩,
  ⟨some 15, .mov (.t 1), none, []⟩,
  ⟨some 16, .fa (.t 3) 0, none, []⟩,
  ⟨some 17, .load 1 true (.t 16), none, []⟩,
  ⟨some 18, .mov (.t 2), none, []⟩,
  ⟨some 19, .call (.fn 110) [.t 14, .c (.int .u8 1), .t 15, .t 17, .t 18], none, []⟩,
  ⟨some 8, .mov (.t 19), none, []⟩] [14, 15, 16, 17, 18, 19]
def R_gregory_Count_2 : AC := .ops false [⟨some 20, .mov (.t 8), none, []⟩,
  ⟨some 21, .bin .neq (.t 20) (.c (.int .i64 0)), none, []⟩] [20]
def R_gregory_Count_3 : AC := .ops false [⟨some 22, .build [.lst 0 [] (some 0), .lst 0 [] (some 0), .lst 0 [] (some 0)] [], none, []⟩,
  ⟨some 23, .mov (.t 8), none, []⟩,
  ⟨none, .store 3 (.t 6) (.t 22), none, []⟩,
  ⟨some 7, .mov (.t 23), none, []⟩] [1, 2, 3, 8, 21, 22, 23]
def R_gregory_Count_4 : AC := .ops false [⟨some 25, .load 3 false (.t 3), none, []⟩,
  ⟨some 26, .mov (.t 1), none, []⟩,
  ⟨some 27, .call (.fn 125) [.t 25, .t 26], none, []⟩,
  ⟨some 24, .mov (.t 27), none, []⟩,
  ⟨some 28, .ext (.t 24) 0, none, []⟩,
  ⟨some 29, .ext (.t 24) 1, none, []⟩,
  ⟨some 9, .mov (.t 28), none, []⟩,
  ⟨some 10, .mov (.t 29), none, []⟩] [8, 10, 21, 24, 25, 26, 27, 28, 29]
def R_gregory_Count_5 : AC := .ops false [⟨some 30, .mov (.t 2), none, []⟩,
  ⟨some 31, .call (.fn 113) [.t 30], none, []⟩,
  ⟨some 32, .mov (.t 1), none, []⟩,
  ⟨some 33, .mov (.t 9), none, []⟩,
  ⟨some 34, .bin .mul (.t 33) (.c (.int .i64 1000000000)), none, []⟩,
  ⟨some 35, .build [.nilp, .lst 0 [] (some 0), .lst 0 [] (some 0), .int .i64 0, .int .i64 0, .int .i64 0] [(0, 1, .t 31), (3, 1, .t 32), (4, 1, .t 34)], none, []⟩,
  ⟨some 36, .box (.t 35), none, []⟩,
  ⟨some 11, .mov (.t 36), none, []⟩] [2, 9, 30, 31, 32, 33, 34, 35, 36]
def R_gregory_Count_6 : AC := .ops false [⟨some 38, .mov (.t 11), none, []⟩,
  ⟨some 39, .load 3 false (.t 3), none, []⟩,
  ⟨some 40, .call (.fn 126) [.t 39], none, []⟩,
  ⟨some 37, .mov (.t 40), none, []⟩,
  ⟨some 41, .ext (.t 37) 0, none, []⟩,
  ⟨some 42, .ext (.t 37) 1, none, []⟩,
  ⟨some 43, .nilchk (.t 38), none, []⟩,
  ⟨some 44, .fa (.t 43) 5, none, []⟩,
  ⟨none, .store 1 (.t 44) (.t 41), none, []⟩] [37, 38, 39, 40, 41, 42, 43, 44]
def R_gregory_Count_7 : AC := .ops false [⟨some 45, .fa (.t 3) 2, none, []⟩,
  ⟨some 46, .load 1 true (.t 45), none, []⟩,
  ⟨some 47, .len (.t 46), none, []⟩,
  ⟨some 48, .mov (.c (.int .i64 0)), none, []⟩] [45]
def R_gregory_Count_8 : AC := .ops false [⟨some 49, .bin .lss (.t 48) (.t 47), none, []⟩] []
def R_gregory_Count_9 : AC := .ops false [⟨some 50, .ia 2 (.t 46) (.t 48), none, []⟩,
  ⟨some 51, .load 2 false (.t 50), none, []⟩,
  ⟨some 13, .alloc [.lst 0 [] (some 0), .int .i64 0], none, []⟩,
  ⟨none, .store 2 (.t 13) (.t 51), none, []⟩] [49, 50, 51]
def R_gregory_Count_10 : AC := .ops true [⟨some 52, .mov (.t 11), none, []⟩,
  ⟨some 53, .mov (.t 11), none, []⟩,
  ⟨some 54, .nilchk (.t 53), none, [1]⟩,
  ⟨some 55, .fa (.t 54) 1, none, [2]⟩,
  ⟨some 56, .load 1 true (.t 55), none, [3]⟩,
  ⟨some 57, .fa (.t 13) 0, none, []⟩,
  ⟨some 58, .load 1 true (.t 57), none, [5]⟩,
  ⟨some 59, .fa (.t 13) 1, none, []⟩,
  ⟨some 60, .load 1 true (.t 59), none, [7]⟩,
  ⟨some 61, .build [.lst 0 [] (some 0), .int .i64 0, .int .i64 0] [(0, 1, .t 58), (1, 1, .t 60), (2, 1, .c (.int .i64 1000000000))], none, [6, 8]⟩,
  ⟨some 62, .bslice 3 [.lst 0 [] (some 0), .int .i64 0, .int .i64 0] 1 [(0, .t 61)], none, [9]⟩,
  ⟨some 63, .append 3 40 (.t 56) (.t 62), none, [4, 10]⟩,
  ⟨some 64, .nilchk (.t 52), none, [0, 0, 1, 2, 3, 4, 5, 6, 7, 8, 9, 10, 11]⟩,
  ⟨some 65, .fa (.t 64) 1, none, [12, 0, 1, 2, 3, 4, 5, 6, 7, 8, 9, 10, 11]⟩,
  ⟨none, .store 1 (.t 65) (.t 63), none, [13, 11, 11, 0, 1, 2, 3, 4, 5, 6, 7, 8, 9, 10, 11]⟩] [13, 52, 53, 54, 55, 56, 57, 58, 59, 60, 61, 62, 63, 64, 65]
def R_gregory_Count_11 : AC := .ops false [⟨some 66, .bin .add (.t 48) (.c (.int .i64 1)), none, []⟩,
  ⟨some 48, .mov (.t 66), none, []⟩] [66]
def L_gregory_Count_1 : AC := (.seq R_gregory_Count_8 (.seq (.cond (.t 49) .skip (.exit 0)) (.seq (.block 1 (.seq R_gregory_Count_9 R_gregory_Count_10)) R_gregory_Count_11)))
def R_gregory_Count_12 : AC := .ops false [⟨some 67, .fa (.t 3) 0, none, []⟩,
  ⟨some 68, .load 1 true (.t 67), none, []⟩,
  ⟨some 69, .mov (.c (.int .i64 0)), none, []⟩] [3, 46, 47, 48, 49, 67]
def R_gregory_Count_13 : AC := .ops false [⟨some 70, .bin .lss (.t 69) (.t 68), none, []⟩] []
def R_gregory_Count_14 : AC := .ops false [⟨some 71, .mov (.t 11), none, []⟩,
  ⟨some 72, .mov (.t 11), none, []⟩,
  ⟨some 73, .nilchk (.t 72), none, []⟩,
  ⟨some 74, .fa (.t 73) 2, none, []⟩,
  ⟨some 75, .load 1 true (.t 74), none, []⟩,
  ⟨some 76, .build [] [], none, []⟩,
  ⟨some 77, .mkiface 212 (.t 76), none, []⟩,
  ⟨some 78, .bslice 1 [.nili] 1 [(0, .t 77)], none, []⟩,
  ⟨some 79, .append 1 16 (.t 75) (.t 78), none, []⟩,
  ⟨some 80, .nilchk (.t 71), none, []⟩,
  ⟨some 81, .fa (.t 80) 2, none, []⟩,
  ⟨none, .store 1 (.t 81) (.t 79), none, []⟩] [70, 71, 72, 73, 74, 75, 76, 77, 78, 79, 80, 81]
def R_gregory_Count_15 : AC := .ops false [⟨some 82, .bin .add (.t 69) (.c (.int .i64 1)), none, []⟩,
  ⟨some 69, .mov (.t 82), none, []⟩] [82]
def L_gregory_Count_2 : AC := (.seq R_gregory_Count_13 (.seq (.cond (.t 70) .skip (.exit 2)) (.seq (.block 3 R_gregory_Count_14) R_gregory_Count_15)))
def R_gregory_Count_16 : AC := .ops false [⟨some 83, .mov (.t 11), none, []⟩,
  ⟨some 84, .nilchk (.t 83), none, []⟩,
  ⟨some 85, .fa (.t 84) 0, none, []⟩,
  ⟨some 86, .load 1 true (.t 85), none, []⟩,
  ⟨some 87, .nilchk (.t 86), none, []⟩,
  ⟨some 88, .fa (.t 87) 0, none, []⟩,
  ⟨some 89, .fa (.t 88) 0, none, []⟩,
  ⟨some 90, .load 1 true (.t 89), none, []⟩,
  ⟨some 91, .len (.t 90), none, []⟩,
  ⟨some 92, .mov (.t 1), none, []⟩,
  ⟨some 93, .bin .lss (.t 91) (.t 92), none, []⟩] [68, 69, 70, 83, 84, 85, 86, 87, 88, 89, 90, 91, 92]
def R_gregory_Count_17 : AC := .ops false [⟨some 94, .mov (.t 11), none, []⟩,
  ⟨some 95, .call (.fn 127) [.t 94], none, []⟩] [93, 94, 95]
def L_gregory_Count_3 : AC := (.seq (.seq R_gregory_Count_16 (.cond (.t 93) .skip (.exit 4))) (.block 5 R_gregory_Count_17))
def R_gregory_Count_18 : AC := .ops false [⟨some 96, .mov (.t 11), none, []⟩,
  ⟨some 97, .nilchk (.t 96), none, []⟩,
  ⟨some 98, .fa (.t 97) 0, none, []⟩,
  ⟨some 99, .load 1 true (.t 98), none, []⟩,
  ⟨some 100, .nilchk (.t 99), none, []⟩,
  ⟨some 101, .fa (.t 100) 0, none, []⟩,
  ⟨some 102, .load 3 false (.t 101), none, []⟩,
  ⟨none, .store 3 (.t 6) (.t 102), none, []⟩,
  ⟨some 7, .mov (.c (.int .i64 0)), none, []⟩] [1, 11, 93, 96, 97, 98, 99, 100, 101, 102]
def F_gregory_Count : AFunc := { ntmps := 103, nargs := 3, kills := [[0, 7], [14, 15, 16, 17, 18, 19], [20], [1, 2, 3, 8, 21, 22, 23], [8, 10, 21, 24, 25, 26, 27, 28, 29], [2, 9, 30, 31, 32, 33, 34, 35, 36], [37, 38, 39, 40, 41, 42, 43, 44], [45], [], [49, 50, 51], [13, 52, 53, 54, 55, 56, 57, 58, 59, 60, 61, 62, 63, 64, 65], [66], [3, 46, 47, 48, 49, 67], [], [70, 71, 72, 73, 74, 75, 76, 77, 78, 79, 80, 81], [82], [68, 69, 70, 83, 84, 85, 86, 87, 88, 89, 90, 91, 92], [93, 94, 95], [1, 11, 93, 96, 97, 98, 99, 100, 101, 102]], results := [.cell 6 3 false, .t 7], body := (.seq R_gregory_Count_0 (.seq (.seq R_gregory_Count_1 (.seq R_gregory_Count_2 (.cond (.t 21) (.seq R_gregory_Count_3 .ret) .skip))) (.seq R_gregory_Count_4 (.seq R_gregory_Count_5 (.seq R_gregory_Count_6 (.seq (.seq R_gregory_Count_7 (.block 0 (.loop L_gregory_Count_1))) (.seq (.seq R_gregory_Count_12 (.block 2 (.loop L_gregory_Count_2))) (.seq (.block 4 (.loop L_gregory_Count_3)) (.seq R_gregory_Count_18 .ret))))))))) }
abbrev k_gregory_Count : Nat := 57
-- suffrage/meek.Count
def R_meek_Count_0 : AC := .ops false [⟨some 3, .box (.t 0), none, []⟩,
  ⟨some 6, .alloc [.lst 0 [] (some 0), .lst 0 [] (some 0), .lst 0 [] (some 0)], none, []⟩,
  ⟨some 7, .mov (.c (.int .i64 0)), none, []⟩] []
def R_meek_Count_1 : AC := .ops false [⟨some 13, .load 3 false (.t 3), none, []⟩,
  ⟨some 14, .mov (.t 1), none, []⟩,
  ⟨some 15, .fa (.t 3) 0, none, []⟩,
  ⟨some 16, .load 1 true (.t 15), none, []⟩,
  ⟨some 17, .mov (.t 2), none, []⟩,
  ⟨some 18, .call (.fn 110) [.t 13, .c (.int .u8 1), .t 14, .t 16, .t 17], none, []⟩,
  ⟨some 8, .mov (.t 18), none, []⟩] []
def R_meek_Count_2 : AC := .ops false [⟨some 19, .mov (.t 8), none, []⟩,
  ⟨some 20, .bin .neq (.t 19) (.c (.int .i64 0)), none, []⟩] []
def R_meek_Count_3 : AC := .ops false [⟨some 21, .build [.lst 0 [] (some 0), .lst 0 [] (some 0), .lst 0 [] (some 0)] [], none, []⟩,
  ⟨some 22, .mov (.t 8), none, []⟩,
  ⟨none, .store 3 (.t 6) (.t 21), none, []⟩,
  ⟨some 7, .mov (.t 22), none, []⟩] [0, 1, 2, 3, 8, 13, 14, 15, 16, 17, 18, 19, 20, 21, 22]
def R_meek_Count_4 : AC := .ops true [⟨some 23, .mov (.t 2), none, []⟩,
  ⟨some 24, .call (.fn 113) [.t 23], none, [0]⟩,
  ⟨some 25, .load 3 false (.t 3), none, []⟩,
  ⟨some 26, .mov (.t 1), none, []⟩,
  ⟨some 27, .fa (.t 3) 0, none, []⟩,
  ⟨some 28, .load 1 true (.t 27), none, [4]⟩,
  ⟨some 29, .call (.fn 116) [.t 28], none, [5, 1]⟩,
  ⟨some 30, .build [.nilp, .int .i64 0, .int .u8 0, .lst 0 [] (some 0), .int .i64 0, .int .i64 0, .lst 0 [] (some 0), .lst 0 [] (some 0), .int .i64 0, .lst 0 [] (some 0), .int .i64 0, .int .i64 0, .lst 0 [] (some 0), .bool false, .lst 0 [] (some 0), .lst 0 [] (some 0), .lst 0 [] (some 0), .lst 0 [] (some 0)] [(0, 1, .t 24), (1, 3, .t 25), (4, 1, .t 26), (7, 1, .t 29)], none, [1, 2, 3, 6]⟩,
  ⟨some 31, .box (.t 30), none, [7]⟩,
  ⟨some 9, .mov (.t 31), none, [8, 6, 0, 1, 2, 3, 4, 5, 6, 7, 8]⟩] []
def R_meek_Count_5 : AC := .ops false [⟨some 33, .mov (.t 9), none, []⟩,
  ⟨some 34, .load 3 false (.t 3), none, []⟩,
  ⟨some 35, .call (.fn 126) [.t 34], none, []⟩,
  ⟨some 32, .mov (.t 35), none, []⟩,
  ⟨some 36, .ext (.t 32) 0, none, []⟩,
  ⟨some 37, .ext (.t 32) 1, none, []⟩,
  ⟨some 38, .nilchk (.t 33), none, []⟩,
  ⟨some 39, .fa (.t 38) 5, none, []⟩,
  ⟨none, .store 1 (.t 39) (.t 36), none, []⟩] []
def R_meek_Count_6 : AC := .ops false [⟨some 40, .fa (.t 3) 0, none, []⟩,
  ⟨some 41, .load 1 true (.t 40), none, []⟩,
  ⟨some 42, .mov (.c (.int .i64 0)), none, []⟩] []
def R_meek_Count_7 : AC := .ops false [⟨some 43, .bin .lss (.t 42) (.t 41), none, []⟩] []
def R_meek_Count_8 : AC := .ops false [⟨some 44, .mov (.t 9), none, []⟩,
  ⟨some 45, .mov (.t 9), none, []⟩,
  ⟨some 46, .nilchk (.t 45), none, []⟩,
  ⟨some 47, .fa (.t 46) 6, none, []⟩,
  ⟨some 48, .load 1 true (.t 47), none, []⟩,
  ⟨some 49, .bslice 1 [.int .i64 0] 1 [(0, .c (.int .i64 1000000000))], none, []⟩,
  ⟨some 50, .append 1 8 (.t 48) (.t 49), none, []⟩,
  ⟨some 51, .nilchk (.t 44), none, []⟩,
  ⟨some 52, .fa (.t 51) 6, none, []⟩,
  ⟨none, .store 1 (.t 52) (.t 50), none, []⟩] [43, 53]
def R_meek_Count_9 : AC := .ops false [⟨some 53, .bin .add (.t 42) (.c (.int .i64 1)), none, []⟩,
  ⟨some 42, .mov (.t 53), none, []⟩] []
def L_meek_Count_1 : AC := (.seq R_meek_Count_7 (.seq (.cond (.t 43) .skip (.exit 0)) (.seq (.block 1 R_meek_Count_8) R_meek_Count_9)))
def R_meek_Count_10 : AC := .ops false [⟨some 54, .build [.nilf, .nilf, .nilf, .nilf] [(0, 1, .f 128), (1, 1, .f 129), (2, 1, .f 130), (3, 1, .f 131)], none, []⟩,
  ⟨some 10, .alloc [.nilf, .nilf, .nilf, .nilf], none, []⟩,
  ⟨none, .store 4 (.t 10) (.t 54), none, []⟩] []
def R_meek_Count_11 : AC := .ops false [⟨some 55, .mov (.t 9), none, []⟩,
  ⟨some 56, .nilchk (.t 55), none, []⟩,
  ⟨some 57, .fa (.t 56) 0, none, []⟩,
  ⟨some 58, .load 1 true (.t 57), none, []⟩,
  ⟨some 59, .nilchk (.t 58), none, []⟩,
  ⟨some 60, .fa (.t 59) 0, none, []⟩,
  ⟨some 61, .fa (.t 60) 0, none, []⟩,
  ⟨some 62, .load 1 true (.t 61), none, []⟩,
  ⟨some 63, .len (.t 62), none, []⟩,
  ⟨some 64, .mov (.t 1), none, []⟩,
  ⟨some 65, .bin .lss (.t 63) (.t 64), none, []⟩] []
def L_meek_Count_2 : AC := (.seq (.seq R_meek_Count_11 (.cond (.t 65) .skip (.exit 2))) (.block 3 .no))
def R_meek_Count_21 : AC := .ops false [⟨some 125, .mov (.t 9), none, []⟩,
  ⟨some 126, .nilchk (.t 125), none, []⟩,
  ⟨some 127, .fa (.t 126) 0, none, []⟩,
  ⟨some 128, .load 1 true (.t 127), none, []⟩,
  ⟨some 129, .nilchk (.t 128), none, []⟩,
  ⟨some 130, .fa (.t 129) 0, none, []⟩,
  ⟨some 131, .load 3 false (.t 130), none, []⟩,
  ⟨none, .store 3 (.t 6) (.t 131), none, []⟩,
  ⟨some 7, .mov (.c (.int .i64 0)), none, []⟩] [0, 1, 2, 3, 8, 9, 10, 13, 14, 15, 16, 17, 18, 19, 20, 23, 24, 25, 26, 27, 28, 29, 30, 31, 32, 33, 34, 35, 36, 37, 38, 39, 40, 41, 42, 43, 44, 45, 46, 47, 48, 49, 50, 51, 52, 53, 54, 55, 56, 57, 58, 59, 60, 61, 62, 63, 64, 65, 125, 126, 127, 128, 129, 130, 131]
def F_meek_Count : AFunc := { ntmps := 132, nargs := 3, kills := [[], [], [], [0, 1, 2, 3, 8, 13, 14, 15, 16, 17, 18, 19, 20, 21, 22], [], [], [], [], [43, 53], [], [], [], [], [], [], [], [], [], [], [], [], [0, 1, 2, 3, 8, 9, 10, 13, 14, 15, 16, 17, 18, 19, 20, 23, 24, 25, 26, 27, 28, 29, 30, 31, 32, 33, 34, 35, 36, 37, 38, 39, 40, 41, 42, 43, 44, 45, 46, 47, 48, 49, 50, 51, 52, 53, 54, 55, 56, 57, 58, 59, 60, 61, 62, 63, 64, 65, 125, 126, 127, 128, 129, 130, 131]], results := [.cell 6 3 false, .t 7], body := (.seq R_meek_Count_0 (.seq (.seq R_meek_Count_1 (.seq R_meek_Count_2 (.cond (.t 20) (.seq R_meek_Count_3 .ret) .skip))) (.seq R_meek_Count_4 (.seq R_meek_Count_5 (.seq (.seq R_meek_Count_6 (.block 0 (.loop L_meek_Count_1))) (.seq R_meek_Count_10 (.seq (.block 2 (.loop L_meek_Count_2)) (.seq R_meek_Count_21 .ret)))))))) }
abbrev k_meek_Count : Nat := 58
-- suffrage/phragmen.Count
def R_phragmen_Count_0 : AC := .ops false [⟨some 3, .box (.t 0), none, []⟩,
  ⟨some 6, .alloc [.lst 0 [] (some 0), .lst 0 [] (some 0), .lst 0 [] (some 0)], none, []⟩,
  ⟨some 7, .mov (.c (.int .i64 0)), none, []⟩] [0, 7]
def R_phragmen_Count_1 : AC := .ops false [⟨some 17, .load 3 false (.t 3), none, []⟩,
  ⟨some 18, .mov (.t 1), none, []⟩,
  ⟨some 19, .fa (.t 3) 0, none, []⟩,
  ⟨some 20, .load 1 true (.t 19), none, []⟩,
  ⟨some 21, .mov (.t 2), none, []⟩,
  ⟨some 22, .call (.fn 110) [.t 17, .c (.int .u8 2), .t 18, .t 20, .t 21], none, []⟩,
  ⟨some 8, .mov (.t 22), none, []⟩] [17, 18, 19, 20, 21, 22]
def R_phragmen_Count_2 : AC := .ops false [⟨some 23, .mov (.t 8), none, []⟩,
  ⟨some 24, .bin .neq (.t 23) (.c (.int .i64 0)), none, []⟩] [23]
def R_phragmen_Count_3 : AC := .ops false [⟨some 25, .build [.lst 0 [] (some 0), .lst 0 [] (some 0), .lst 0 [] (some 0)] [], none, []⟩,
  ⟨some 26, .mov (.t 8), none, []⟩,
  ⟨none, .store 3 (.t 6) (.t 25), none, []⟩,
  ⟨some 7, .mov (.t 26), none, []⟩] [1, 2, 3, 8, 24, 25, 26]
def R_phragmen_Count_4 : AC := .ops true [⟨some 27, .mov (.t 2), none, []⟩,
  ⟨some 28, .call (.fn 113) [.t 27], none, [0]⟩,
  ⟨some 29, .fa (.t 3) 0, none, []⟩,
  ⟨some 30, .load 1 true (.t 29), none, [2]⟩,
  ⟨some 31, .call (.fn 116) [.t 30], none, [3, 1]⟩,
  ⟨some 32, .fa (.t 3) 2, none, []⟩,
  ⟨some 33, .load 1 true (.t 32), none, [5]⟩,
  ⟨some 34, .len (.t 33), none, [6]⟩,
  ⟨some 35, .call (.fn 134) [.t 34], none, [7, 4]⟩,
  ⟨some 9, .alloc [.nilp], none, []⟩,
  ⟨some 10, .alloc [.lst 0 [] (some 0)], none, []⟩,
  ⟨some 11, .alloc [.lst 0 [] (some 0)], none, []⟩,
  ⟨none, .store 1 (.t 9) (.t 28), none, [9, 1, 8, 0, 1, 9, 10, 11]⟩,
  ⟨none, .store 1 (.t 10) (.t 31), none, [10, 4, 12, 0, 1, 2, 3, 4, 9, 10, 11, 12]⟩,
  ⟨none, .store 1 (.t 11) (.t 35), none, [11, 8, 13, 0, 1, 2, 3, 4, 5, 6, 7, 8, 9, 10, 11, 12, 13]⟩] [2, 8, 24, 27, 28, 29, 30, 31, 32, 33, 34, 35]
def R_phragmen_Count_5 : AC := .ops false [⟨some 37, .load 3 false (.t 3), none, []⟩,
  ⟨some 38, .call (.fn 135) [.t 37], none, []⟩,
  ⟨some 36, .mov (.t 38), none, []⟩,
  ⟨some 39, .ext (.t 36) 0, none, []⟩,
  ⟨some 40, .ext (.t 36) 1, none, []⟩,
  ⟨some 12, .alloc [.int .i64 0], none, []⟩,
  ⟨none, .store 1 (.t 12) (.t 39), none, []⟩,
  ⟨some 13, .mov (.t 40), none, []⟩] [13, 36, 37, 38, 39, 40]
def R_phragmen_Count_6 : AC := .ops false [⟨some 42, .load 3 false (.t 3), none, []⟩,
  ⟨some 43, .call (.fn 126) [.t 42], none, []⟩,
  ⟨some 41, .mov (.t 43), none, []⟩,
  ⟨some 44, .ext (.t 41) 0, none, []⟩,
  ⟨some 45, .ext (.t 41) 1, none, []⟩,
  ⟨some 14, .alloc [.int .i64 0], none, []⟩,
  ⟨none, .store 1 (.t 14) (.t 44), none, []⟩,
  ⟨some 15, .mov (.t 45), none, []⟩] [15, 41, 42, 43, 44, 45]
def R_phragmen_Count_7 : AC := .ops false [⟨some 46, .mkfn 136 [] [.t 3, .t 12, .t 14, .t 10, .t 11, .t 9], none, []⟩,
  ⟨some 16, .mov (.t 46), none, []⟩] [3, 10, 11, 12, 14, 46]
def R_phragmen_Count_8 : AC := .ops false [⟨some 47, .mov (.t 1), none, []⟩,
  ⟨some 48, .mov (.c (.int .i64 0)), none, []⟩] [1]
def R_phragmen_Count_9 : AC := .ops false [⟨some 49, .bin .lss (.t 48) (.t 47), none, []⟩] []
def R_phragmen_Count_10 : AC := .ops true [⟨some 50, .load 1 true (.t 9), none, []⟩,
  ⟨some 51, .load 1 true (.t 9), none, []⟩,
  ⟨some 52, .nilchk (.t 51), none, [1]⟩,
  ⟨some 53, .fa (.t 52) 0, none, [2]⟩,
  ⟨some 54, .fa (.t 53) 1, none, [3]⟩,
  ⟨some 55, .load 1 true (.t 54), none, [4]⟩,
  ⟨some 56, .mov (.t 16), none, []⟩,
  ⟨some 57, .call (.dyn (.t 56)) [], none, [6]⟩,
  ⟨some 58, .bslice 6 [.lst 0 [] (some 0), .bool false, .lst 0 [] (some 0), .lst 0 [] (some 0), .lst 0 [] (some 0), .lst 0 [] (some 0)] 1 [(0, .t 57)], none, [7]⟩,
  ⟨some 59, .append 6 128 (.t 55) (.t 58), none, [5, 8, 7]⟩,
  ⟨some 60, .nilchk (.t 50), none, [0, 0, 1, 2, 3, 4, 5, 6, 7, 8, 9]⟩,
  ⟨some 61, .fa (.t 60) 0, none, [10, 0, 1, 2, 3, 4, 5, 6, 7, 8, 9]⟩,
  ⟨some 62, .fa (.t 61) 1, none, [11, 0, 1, 2, 3, 4, 5, 6, 7, 8, 9]⟩,
  ⟨none, .store 1 (.t 62) (.t 59), none, [12, 9, 9, 0, 1, 2, 3, 4, 5, 6, 7, 8, 9]⟩] [49, 50, 51, 52, 53, 54, 55, 56, 57, 58, 59, 60, 61, 62]
def R_phragmen_Count_11 : AC := .ops false [⟨some 63, .bin .add (.t 48) (.c (.int .i64 1)), none, []⟩,
  ⟨some 48, .mov (.t 63), none, []⟩] [63]
def L_phragmen_Count_1 : AC := (.seq R_phragmen_Count_9 (.seq (.cond (.t 49) .skip (.exit 0)) (.seq (.block 1 R_phragmen_Count_10) R_phragmen_Count_11)))
def R_phragmen_Count_12 : AC := .ops false [⟨some 64, .load 1 true (.t 9), none, []⟩,
  ⟨some 65, .nilchk (.t 64), none, []⟩,
  ⟨some 66, .fa (.t 65) 0, none, []⟩,
  ⟨some 67, .load 3 false (.t 66), none, []⟩,
  ⟨none, .store 3 (.t 6) (.t 67), none, []⟩,
  ⟨some 7, .mov (.c (.int .i64 0)), none, []⟩] [9, 16, 47, 48, 49, 64, 65, 66, 67]
def F_phragmen_Count : AFunc := { ntmps := 68, nargs := 3, kills := [[0, 7], [17, 18, 19, 20, 21, 22], [23], [1, 2, 3, 8, 24, 25, 26], [2, 8, 24, 27, 28, 29, 30, 31, 32, 33, 34, 35], [13, 36, 37, 38, 39, 40], [15, 41, 42, 43, 44, 45], [3, 10, 11, 12, 14, 46], [1], [], [49, 50, 51, 52, 53, 54, 55, 56, 57, 58, 59, 60, 61, 62], [63], [9, 16, 47, 48, 49, 64, 65, 66, 67]], results := [.cell 6 3 false, .t 7], body := (.seq R_phragmen_Count_0 (.seq (.seq R_phragmen_Count_1 (.seq R_phragmen_Count_2 (.cond (.t 24) (.seq R_phragmen_Count_3 .ret) .skip))) (.seq R_phragmen_Count_4 (.seq R_phragmen_Count_5 (.seq R_phragmen_Count_6 (.seq R_phragmen_Count_7 (.seq (.seq R_phragmen_Count_8 (.block 0 (.loop L_phragmen_Count_1))) (.seq R_phragmen_Count_12 .ret)))))))) }
abbrev k_phragmen_Count : Nat := 59
-- suffrage/lists.DHondt
def R_lists_DHondt_0 : AC := .ops false [⟨some 3, .box (.t 0), none, []⟩,
  ⟨some 6, .alloc [.lst 0 [] (some 0), .lst 0 [] (some 0), .lst 0 [] (some 0)], none, []⟩,
  ⟨some 7, .mov (.c (.int .i64 0)), none, []⟩] [0, 7]
def R_lists_DHondt_1 : AC := .ops false [⟨some 8, .load 3 false (.t 3), none, []⟩,
  ⟨some 9, .mov (.t 1), none, []⟩,
  ⟨some 10, .mov (.t 2), none, []⟩,
  ⟨some 11, .build [.nilf] [(0, 1, .f 142)], none, []⟩,
  ⟨some 12, .mkfn 143 [.t 11] [], none, []⟩,
  ⟨some 13, .call (.fn 141) [.t 8, .t 9, .t 10, .t 12], none, []⟩,
  ⟨some 14, .ext (.t 13) 0, none, []⟩,
  ⟨some 15, .ext (.t 13) 1, none, []⟩,
  ⟨none, .store 3 (.t 6) (.t 14), none, []⟩,
  ⟨some 7, .mov (.t 15), none, []⟩] [1, 2, 3, 8, 9, 10, 11, 12, 13, 14, 15]
def F_lists_DHondt : AFunc := { ntmps := 16, nargs := 3, kills := [[0, 7], [1, 2, 3, 8, 9, 10, 11, 12, 13, 14, 15]], results := [.cell 6 3 false, .t 7], body := (.seq R_lists_DHondt_0 (.seq R_lists_DHondt_1 .ret)) }
abbrev k_lists_DHondt : Nat := 60
-- suffrage/lists.Sainte
def R_lists_Sainte_0 : AC := .ops false [⟨some 3, .box (.t 0), none, []⟩,
  ⟨some 6, .alloc [.lst 0 [] (some 0), .lst 0 [] (some 0), .lst 0 [] (some 0)], none, []⟩,
  ⟨some 7, .mov (.c (.int .i64 0)), none, []⟩] [0, 7]
def R_lists_Sainte_1 : AC := .ops false [⟨some 8, .load 3 false (.t 3), none, []⟩,
  ⟨some 9, .mov (.t 1), none, []⟩,
  ⟨some 10, .mov (.t 2), none, []⟩,
  ⟨some 11, .build [.nilf] [(0, 1, .f 144)], none, []⟩,
  ⟨some 12, .mkfn 143 [.t 11] [], none, []⟩,
  ⟨some 13, .call (.fn 141) [.t 8, .t 9, .t 10, .t 12], none, []⟩,
  ⟨some 14, .ext (.t 13) 0, none, []⟩,
  ⟨some 15, .ext (.t 13) 1, none, []⟩,
  ⟨none, .store 3 (.t 6) (.t 14), none, []⟩,
  ⟨some 7, .mov (.t 15), none, []⟩] [1, 2, 3, 8, 9, 10, 11, 12, 13, 14, 15]
def F_lists_Sainte : AFunc := { ntmps := 16, nargs := 3, kills := [[0, 7], [1, 2, 3, 8, 9, 10, 11, 12, 13, 14, 15]], results := [.cell 6 3 false, .t 7], body := (.seq R_lists_Sainte_0 (.seq R_lists_Sainte_1 .ret)) }
abbrev k_lists_Sainte : Nat := 61
-- suffrage/lists.Hare
def R_lists_Hare_0 : AC := .ops false [⟨some 3, .box (.t 0), none, []⟩,
  ⟨some 6, .alloc [.lst 0 [] (some 0), .lst 0 [] (some 0), .lst 0 [] (some 0)], none, []⟩,
  ⟨some 7, .mov (.c (.int .i64 0)), none, []⟩] [0, 7]
def R_lists_Hare_1 : AC := .ops false [⟨some 8, .load 3 false (.t 3), none, []⟩,
  ⟨some 9, .mov (.t 1), none, []⟩,
  ⟨some 10, .mov (.t 2), none, []⟩,
  ⟨some 11, .call (.fn 141) [.t 8, .t 9, .t 10, .f 145], none, []⟩,
  ⟨some 12, .ext (.t 11) 0, none, []⟩,
  ⟨some 13, .ext (.t 11) 1, none, []⟩,
  ⟨none, .store 3 (.t 6) (.t 12), none, []⟩,
  ⟨some 7, .mov (.t 13), none, []⟩] [1, 2, 3, 8, 9, 10, 11, 12, 13]
def F_lists_Hare : AFunc := { ntmps := 14, nargs := 3, kills := [[0, 7], [1, 2, 3, 8, 9, 10, 11, 12, 13]], results := [.cell 6 3 false, .t 7], body := (.seq R_lists_Hare_0 (.seq R_lists_Hare_1 .ret)) }
abbrev k_lists_Hare : Nat := 62
-- slices.Sorted[int]
def R_slices_Sorted_0 : AC := .ops false [⟨some 2, .mov (.c (.lst 0 [] (some 0))), none, []⟩] [2]
def R_slices_Sorted_1 : AC := .ops false [⟨some 4, .mov (.t 0), none, []⟩,
  ⟨some 5, .call (.fn 146) [.t 4], none, []⟩,
  ⟨some 3, .mov (.t 5), none, []⟩] [0, 4, 5]
def R_slices_Sorted_2 : AC := .ops false [⟨some 6, .mov (.t 3), none, []⟩,
  ⟨some 7, .call (.fn 27) [.t 6], none, []⟩] [6, 7]
def R_slices_Sorted_3 : AC := .ops false [⟨some 8, .mov (.t 3), none, []⟩,
  ⟨some 2, .mov (.t 8), none, []⟩] [3, 8]
def F_slices_Sorted : AFunc := { ntmps := 9, nargs := 1, kills := [[2], [0, 4, 5], [6, 7], [3, 8]], results := [.t 2], body := (.seq R_slices_Sorted_0 (.seq R_slices_Sorted_1 (.seq R_slices_Sorted_2 (.seq R_slices_Sorted_3 .ret)))) }
abbrev k_slices_Sorted : Nat := 63
-- slices.Values[[]int,int]
def R_slices_Values_0 : AC := .ops false [⟨some 1, .box (.t 0), none, []⟩,
  ⟨some 2, .mov (.c (.nilf)), none, []⟩] [0, 2]
def R_slices_Values_1 : AC := .ops false [⟨some 3, .mkfn 147 [] [.t 1], none, []⟩,
  ⟨some 2, .mov (.t 3), none, []⟩] [1, 3]
def F_slices_Values : AFunc := { ntmps := 4, nargs := 1, kills := [[0, 2], [1, 3]], results := [.t 2], body := (.seq R_slices_Values_0 (.seq R_slices_Values_1 .ret)) }
abbrev k_slices_Values : Nat := 64
-- suffrage/count.fits$1
def R_count_fits_1_0 : AC := .ops false [⟨some 3, .mov (.c (.bool false)), none, []⟩] [3]
def R_count_fits_1_1 : AC := .ops false [⟨some 4, .mov (.t 0), none, []⟩,
  ⟨some 5, .mkfn 67 [] [.t 1], none, []⟩,
  ⟨some 6, .call (.fn 66) [.t 4, .t 5], none, []⟩,
  ⟨some 7, .un .not (.t 6), none, []⟩,
  ⟨some 3, .mov (.t 7), none, []⟩] [0, 1, 4, 5, 6, 7]
def F_count_fits_1 : AFunc := { ntmps := 8, nargs := 2, kills := [[3], [0, 1, 4, 5, 6, 7]], results := [.t 3], body := (.seq R_count_fits_1_0 (.seq R_count_fits_1_1 .ret)) }
abbrev k_count_fits_1 : Nat := 65
-- slices.ContainsFunc[[]int,int]
def R_slices_ContainsFunc_0 : AC := .ops false [⟨some 4, .mov (.c (.bool false)), none, []⟩] [4]
def R_slices_ContainsFunc_1 : AC := .ops false [⟨some 5, .mov (.t 0), none, []⟩,
  ⟨some 6, .mov (.t 1), none, []⟩,
  ⟨some 7, .call (.fn 148) [.t 5, .t 6], none, []⟩,
  ⟨some 8, .bin .geq (.t 7) (.c (.int .i64 0)), none, []⟩,
  ⟨some 4, .mov (.t 8), none, []⟩] [0, 1, 5, 6, 7, 8]
def F_slices_ContainsFunc : AFunc := { ntmps := 9, nargs := 2, kills := [[4], [0, 1, 5, 6, 7, 8]], results := [.t 4], body := (.seq R_slices_ContainsFunc_0 (.seq R_slices_ContainsFunc_1 .ret)) }
abbrev k_slices_ContainsFunc : Nat := 66
-- suffrage/count.fits$1$1
def R_count_fits_1_1_0 : AC := .ops false [⟨some 3, .mov (.c (.bool false)), none, []⟩] [3]
def R_count_fits_1_1_1 : AC := .ops false [⟨some 4, .mov (.t 0), none, []⟩,
  ⟨some 5, .bin .lss (.t 4) (.c (.int .i64 0)), none, []⟩,
  ⟨some 6, .mov (.t 5), none, []⟩,
  ⟨some 7, .mov (.t 0), some (6, false), []⟩,
  ⟨some 8, .load 1 true (.t 1), some (6, false), []⟩,
  ⟨some 9, .bin .geq (.t 7) (.t 8), some (6, false), []⟩,
  ⟨some 10, .pick (.t 6) (.c (.bool true)) (.t 9), none, []⟩,
  ⟨some 3, .mov (.t 10), none, []⟩] [0, 1, 4, 5, 6, 7, 8, 9, 10]
def F_count_fits_1_1 : AFunc := { ntmps := 11, nargs := 2, kills := [[3], [0, 1, 4, 5, 6, 7, 8, 9, 10]], results := [.t 3], body := (.seq R_count_fits_1_1_0 (.seq R_count_fits_1_1_1 .ret)) }
abbrev k_count_fits_1_1 : Nat := 67
-- slices.Clone[[]suffrage/api.Round,suffrage/api.Round]
def R_slices_Clone_2_0 : AC := .ops false [⟨some 2, .mov (.c (.lst 0 [] (some 0))), none, []⟩] [2]
def R_slices_Clone_2_1 : AC := .ops false [⟨some 3, .mov (.t 0), none, []⟩,
  ⟨some 4, .isnil 0 false (.t 3), none, []⟩] [3]
def R_slices_Clone_2_2 : AC := .ops false [⟨some 2, .mov (.c (.lst 0 [] (some 0))), none, []⟩] [0, 4]
def R_slices_Clone_2_3 : AC := .ops false [⟨some 5, .bslice 6 [.lst 0 [] (some 0), .bool false, .lst 0 [] (some 0), .lst 0 [] (some 0), .lst 0 [] (some 0), .lst 0 [] (some 0)] 0 [], none, []⟩,
  ⟨some 6, .mov (.t 0), none, []⟩,
  ⟨some 7, .append 6 128 (.t 5) (.t 6), none, []⟩,
  ⟨some 2, .mov (.t 7), none, []⟩] [0, 4, 5, 6, 7]
def F_slices_Clone_2 : AFunc := { ntmps := 8, nargs := 1, kills := [[2], [3], [0, 4], [0, 4, 5, 6, 7]], results := [.t 2], body := (.seq R_slices_Clone_2_0 (.seq (.seq R_slices_Clone_2_1 (.cond (.t 4) (.seq R_slices_Clone_2_2 .ret) .skip)) (.seq R_slices_Clone_2_3 .ret))) }
abbrev k_slices_Clone_2 : Nat := 68
-- slices.Clone[[]suffrage/api.Tie,suffrage/api.Tie]
def R_slices_Clone_3_0 : AC := .ops false [⟨some 2, .mov (.c (.lst 0 [] (some 0))), none, []⟩] [2]
def R_slices_Clone_3_1 : AC := .ops false [⟨some 3, .mov (.t 0), none, []⟩,
  ⟨some 4, .isnil 0 false (.t 3), none, []⟩] [3]
def R_slices_Clone_3_2 : AC := .ops false [⟨some 2, .mov (.c (.lst 0 [] (some 0))), none, []⟩] [0, 4]
def R_slices_Clone_3_3 : AC := .ops false [⟨some 5, .bslice 2 [.lst 0 [] (some 0), .int .i64 0] 0 [], none, []⟩,
  ⟨some 6, .mov (.t 0), none, []⟩,
  ⟨some 7, .append 2 32 (.t 5) (.t 6), none, []⟩,
  ⟨some 2, .mov (.t 7), none, []⟩] [0, 4, 5, 6, 7]
def F_slices_Clone_3 : AFunc := { ntmps := 8, nargs := 1, kills := [[2], [3], [0, 4], [0, 4, 5, 6, 7]], results := [.t 2], body := (.seq R_slices_Clone_3_0 (.seq (.seq R_slices_Clone_3_1 (.cond (.t 4) (.seq R_slices_Clone_3_2 .ret) .skip)) (.seq R_slices_Clone_3_3 .ret))) }
abbrev k_slices_Clone_3 : Nat := 69
-- suffrage/ratio.Twin
def R_ratio_Twin_0 : AC := .ops false [⟨some 1, .box (.t 0), none, []⟩,
  ⟨some 2, .alloc [.bool false, .lst 0 [] (some 0), .lst 0 [] (some 0)], none, []⟩] [0]
def R_ratio_Twin_1 : AC := .ops true [⟨some 3, .fa (.t 1) 0, none, []⟩,
  ⟨some 4, .load 1 true (.t 3), none, [0]⟩,
  ⟨some 5, .fa (.t 1) 1, none, []⟩,
  ⟨some 6, .load 1 true (.t 5), none, [2]⟩,
  ⟨some 7, .call (.fn 149) [.t 6], none, [3]⟩,
  ⟨some 8, .fa (.t 1) 2, none, []⟩,
  ⟨some 9, .load 1 true (.t 8), none, [5]⟩,
  ⟨some 10, .call (.fn 149) [.t 9], none, [6, 4]⟩,
  ⟨some 11, .build [.bool false, .lst 0 [] (some 0), .lst 0 [] (some 0)] [(0, 1, .t 4), (1, 1, .t 7), (2, 1, .t 10)], none, [1, 4, 7]⟩,
  ⟨none, .store 3 (.t 2) (.t 11), none, [8, 7, 0, 1, 2, 3, 4, 5, 6, 7, 8]⟩] [1, 3, 4, 5, 6, 7, 8, 9, 10, 11]
def F_ratio_Twin : AFunc := { ntmps := 12, nargs := 1, kills := [[0], [1, 3, 4, 5, 6, 7, 8, 9, 10, 11]], results := [.cell 2 3 false], body := (.seq R_ratio_Twin_0 (.seq R_ratio_Twin_1 .ret)) }
abbrev k_ratio_Twin : Nat := 70
-- slices.Clone[[]suffrage/api.Ratio,suffrage/api.Ratio]
def R_slices_Clone_4_0 : AC := .ops false [⟨some 2, .mov (.c (.lst 0 [] (some 0))), none, []⟩] [2]
def R_slices_Clone_4_1 : AC := .ops false [⟨some 3, .mov (.t 0), none, []⟩,
  ⟨some 4, .isnil 0 false (.t 3), none, []⟩] [3]
def R_slices_Clone_4_2 : AC := .ops false [⟨some 2, .mov (.c (.lst 0 [] (some 0))), none, []⟩] [0, 4]
def R_slices_Clone_4_3 : AC := .ops false [⟨some 5, .bslice 3 [.bool false, .lst 0 [] (some 0), .lst 0 [] (some 0)] 0 [], none, []⟩,
  ⟨some 6, .mov (.t 0), none, []⟩,
  ⟨some 7, .append 3 56 (.t 5) (.t 6), none, []⟩,
  ⟨some 2, .mov (.t 7), none, []⟩] [0, 4, 5, 6, 7]
def F_slices_Clone_4 : AFunc := { ntmps := 8, nargs := 1, kills := [[2], [3], [0, 4], [0, 4, 5, 6, 7]], results := [.t 2], body := (.seq R_slices_Clone_4_0 (.seq (.seq R_slices_Clone_4_1 (.cond (.t 4) (.seq R_slices_Clone_4_2 .ret) .skip)) (.seq R_slices_Clone_4_3 .ret))) }
abbrev k_slices_Clone_4 : Nat := 71
-- slices.pdqsortOrdered[int]
def R_slices_pdqsortOrdered_0 : AC := .ops false [⟨some 8, .mov (.c (.bool true)), none, []⟩] []
def R_slices_pdqsortOrdered_1 : AC := .ops false [⟨some 9, .mov (.c (.bool true)), none, []⟩] []
def R_slices_pdqsortOrdered_2 : AC := .ops false [⟨some 19, .mov (.t 2), none, []⟩,
  ⟨some 20, .mov (.t 1), none, []⟩,
  ⟨some 21, .bin .sub (.t 19) (.t 20), none, []⟩,
  ⟨some 10, .mov (.t 21), none, []⟩] [19, 20, 21]
def R_slices_pdqsortOrdered_3 : AC := .ops false [⟨some 22, .mov (.t 10), none, []⟩,
  ⟨some 23, .bin .leq (.t 22) (.c (.int .i64 12)), none, []⟩] [22]
def R_slices_pdqsortOrdered_4 : AC := .ops false [⟨some 24, .mov (.t 0), none, []⟩,
  ⟨some 25, .mov (.t 1), none, []⟩,
  ⟨some 26, .mov (.t 2), none, []⟩,
  ⟨some 27, .call (.fn 150) [.t 24, .t 25, .t 26], none, []⟩] [0, 1, 2, 3, 8, 9, 10, 23, 24, 25, 26, 27]
def R_slices_pdqsortOrdered_5 : AC := .ops false [⟨some 28, .mov (.t 3), none, []⟩,
  ⟨some 29, .bin .eql (.t 28) (.c (.int .i64 0)), none, []⟩] [23, 28]
def R_slices_pdqsortOrdered_6 : AC := .ops false [⟨some 30, .mov (.t 0), none, []⟩,
  ⟨some 31, .mov (.t 1), none, []⟩,
  ⟨some 32, .mov (.t 2), none, []⟩,
  ⟨some 33, .call (.fn 151) [.t 30, .t 31, .t 32], none, []⟩] [0, 1, 2, 3, 8, 9, 10, 29, 30, 31, 32, 33]
def R_slices_pdqsortOrdered_7 : AC := .ops false [⟨some 34, .mov (.t 8), none, []⟩,
  ⟨some 35, .un .not (.t 34), none, []⟩] [29, 34]
def R_slices_pdqsortOrdered_8 : AC := .ops false [⟨some 36, .mov (.t 0), none, []⟩,
  ⟨some 37, .mov (.t 1), none, []⟩,
  ⟨some 38, .mov (.t 2), none, []⟩,
  ⟨some 39, .call (.fn 152) [.t 36, .t 37, .t 38], none, []⟩] [35, 36, 37, 38, 39]
def R_slices_pdqsortOrdered_9 : AC := .ops false [⟨some 40, .mov (.t 3), none, []⟩,
  ⟨some 41, .bin .sub (.t 40) (.c (.int .i64 1)), none, []⟩,
  ⟨some 3, .mov (.t 41), none, []⟩] [40, 41]
def R_slices_pdqsortOrdered_10 : AC := .ops false [⟨some 43, .mov (.t 0), none, []⟩,
  ⟨some 44, .mov (.t 1), none, []⟩,
  ⟨some 45, .mov (.t 2), none, []⟩,
  ⟨some 46, .call (.fn 153) [.t 43, .t 44, .t 45], none, []⟩,
  ⟨some 42, .mov (.t 46), none, []⟩,
  ⟨some 47, .ext (.t 42) 0, none, []⟩,
  ⟨some 48, .ext (.t 42) 1, none, []⟩,
  ⟨some 11, .mov (.t 47), none, []⟩,
  ⟨some 12, .mov (.t 48), none, []⟩] [35, 42, 43, 44, 45, 46, 47, 48]
def R_slices_pdqsortOrdered_11 : AC := .ops false [⟨some 49, .mov (.t 12), none, []⟩,
  ⟨some 50, .bin .eql (.t 49) (.c (.int .i64 2)), none, []⟩] [49]
def R_slices_pdqsortOrdered_12 : AC := .ops false [⟨some 51, .mov (.t 0), none, []⟩,
  ⟨some 52, .mov (.t 1), none, []⟩,
  ⟨some 53, .mov (.t 2), none, []⟩,
  ⟨some 54, .call (.fn 154) [.t 51, .t 52, .t 53], none, []⟩] [12, 50, 51, 52, 53, 54]
def R_slices_pdqsortOrdered_13 : AC := .ops false [⟨some 55, .mov (.t 2), none, []⟩,
  ⟨some 56, .bin .sub (.t 55) (.c (.int .i64 1)), none, []⟩,
  ⟨some 57, .mov (.t 11), none, []⟩,
  ⟨some 58, .mov (.t 1), none, []⟩,
  ⟨some 59, .bin .sub (.t 57) (.t 58), none, []⟩,
  ⟨some 60, .bin .sub (.t 56) (.t 59), none, []⟩,
  ⟨some 11, .mov (.t 60), none, []⟩] [55, 56, 57, 58, 59, 60]
def R_slices_pdqsortOrdered_14 : AC := .ops false [⟨some 12, .mov (.c (.int .i64 1)), none, []⟩] []
def R_slices_pdqsortOrdered_15 : AC := .ops false [⟨some 61, .mov (.t 8), none, []⟩,
  ⟨some 62, .mov (.t 61), none, []⟩,
  ⟨some 63, .mov (.t 9), some (62, true), []⟩,
  ⟨some 64, .pick (.t 62) (.t 63) (.c (.bool false)), none, []⟩,
  ⟨some 65, .mov (.t 64), none, []⟩,
  ⟨some 66, .mov (.t 12), some (65, true), []⟩,
  ⟨some 67, .bin .eql (.t 66) (.c (.int .i64 1)), some (65, true), []⟩,
  ⟨some 68, .pick (.t 65) (.t 67) (.c (.bool false)), none, []⟩] [12, 50, 61, 62, 63, 64, 65, 66, 67]
def R_slices_pdqsortOrdered_16 : AC := .ops false [⟨some 69, .mov (.t 0), none, []⟩,
  ⟨some 70, .mov (.t 1), none, []⟩,
  ⟨some 71, .mov (.t 2), none, []⟩,
  ⟨some 72, .call (.fn 155) [.t 69, .t 70, .t 71], none, []⟩] [68, 69, 70, 71]
def R_slices_pdqsortOrdered_17 : AC := .ops true [⟨some 73, .mov (.t 1), none, []⟩,
  ⟨some 74, .bin .gtr (.t 73) (.c (.int .i64 0)), none, [0]⟩,
  ⟨some 75, .mov (.t 74), none, [1]⟩,
  ⟨some 76, .mov (.t 0), some (75, true), [2]⟩,
  ⟨some 77, .mov (.t 1), some (75, true), [2]⟩,
  ⟨some 78, .bin .sub (.t 77) (.c (.int .i64 1)), some (75, true), [4, 2]⟩,
  ⟨some 79, .ia 1 (.t 76) (.t 78), some (75, true), [3, 5, 2]⟩,
  ⟨some 80, .load 1 true (.t 79), some (75, true), [6, 2]⟩,
  ⟨some 81, .mov (.t 0), some (75, true), [2]⟩,
  ⟨some 82, .mov (.t 11), some (75, true), [2]⟩,
  ⟨some 83, .ia 1 (.t 81) (.t 82), some (75, true), [8, 9, 2]⟩,
  ⟨some 84, .load 1 true (.t 83), some (75, true), [10, 2]⟩,
  ⟨some 85, .call (.fn 156) [.t 80, .t 84], some (75, true), [7, 11, 2, 2]⟩,
  ⟨some 86, .un .not (.t 85), some (75, true), [12, 2]⟩,
  ⟨some 87, .pick (.t 75) (.t 86) (.c (.bool false)), none, [2, 13]⟩] [68, 72, 73, 74, 75, 76, 77, 78, 79, 80, 81, 82, 83, 84, 85, 86]
def R_slices_pdqsortOrdered_18 : AC := .ops false [⟨some 88, .mov (.t 0), none, []⟩,
  ⟨some 89, .mov (.t 1), none, []⟩,
  ⟨some 90, .mov (.t 2), none, []⟩,
  ⟨some 91, .mov (.t 11), none, []⟩,
  ⟨some 92, .call (.fn 157) [.t 88, .t 89, .t 90, .t 91], none, []⟩,
  ⟨some 13, .mov (.t 92), none, []⟩] [1, 10, 11, 87, 88, 89, 90, 91, 92]
def R_slices_pdqsortOrdered_19 : AC := .ops false [⟨some 93, .mov (.t 13), none, []⟩,
  ⟨some 1, .mov (.t 93), none, []⟩] [13, 93]
def R_slices_pdqsortOrdered_20 : AC := .ops false [⟨some 95, .mov (.t 0), none, []⟩,
  ⟨some 96, .mov (.t 1), none, []⟩,
  ⟨some 97, .mov (.t 2), none, []⟩,
  ⟨some 98, .mov (.t 11), none, []⟩,
  ⟨some 99, .call (.fn 158) [.t 95, .t 96, .t 97, .t 98], none, []⟩,
  ⟨some 94, .mov (.t 99), none, []⟩,
  ⟨some 100, .ext (.t 94) 0, none, []⟩,
  ⟨some 101, .ext (.t 94) 1, none, []⟩,
  ⟨some 14, .mov (.t 100), none, []⟩,
  ⟨some 15, .mov (.t 101), none, []⟩] [8, 9, 11, 87, 94, 95, 96, 97, 98, 99, 100, 101]
def R_slices_pdqsortOrdered_21 : AC := .ops false [⟨some 102, .mov (.t 15), none, []⟩,
  ⟨some 9, .mov (.t 102), none, []⟩] [15, 102]
def R_slices_pdqsortOrdered_22 : AC := .ops false [⟨some 103, .mov (.t 14), none, []⟩,
  ⟨some 104, .mov (.t 1), none, []⟩,
  ⟨some 105, .bin .sub (.t 103) (.t 104), none, []⟩,
  ⟨some 106, .mov (.t 2), none, []⟩,
  ⟨some 107, .mov (.t 14), none, []⟩,
  ⟨some 108, .bin .sub (.t 106) (.t 107), none, []⟩,
  ⟨some 16, .mov (.t 105), none, []⟩,
  ⟨some 17, .mov (.t 108), none, []⟩] [103, 104, 105, 106, 107, 108]
def R_slices_pdqsortOrdered_23 : AC := .ops false [⟨some 109, .mov (.t 10), none, []⟩,
  ⟨some 110, .bin .quo (.t 109) (.c (.int .i64 8)), none, []⟩,
  ⟨some 18, .mov (.t 110), none, []⟩] [10, 109, 110]
def R_slices_pdqsortOrdered_24 : AC := .ops false [⟨some 111, .mov (.t 16), none, []⟩,
  ⟨some 112, .mov (.t 17), none, []⟩,
  ⟨some 113, .bin .lss (.t 111) (.t 112), none, []⟩] [111, 112]
def R_slices_pdqsortOrdered_25 : AC := .ops false [⟨some 114, .mov (.t 16), none, []⟩,
  ⟨some 115, .mov (.t 18), none, []⟩,
  ⟨some 116, .bin .geq (.t 114) (.t 115), none, []⟩,
  ⟨some 8, .mov (.t 116), none, []⟩] [16, 17, 18, 113, 114, 115, 116]
def R_slices_pdqsortOrdered_26 : AC := .ops false [⟨some 117, .mov (.t 0), none, []⟩,
  ⟨some 118, .mov (.t 1), none, []⟩,
  ⟨some 119, .mov (.t 14), none, []⟩,
  ⟨some 120, .mov (.t 3), none, []⟩,
  ⟨some 121, .call (.fn 72) [.t 117, .t 118, .t 119, .t 120], none, []⟩] [1, 117, 118, 119, 120, 121]
def R_slices_pdqsortOrdered_27 : AC := .ops false [⟨some 122, .mov (.t 14), none, []⟩,
  ⟨some 123, .bin .add (.t 122) (.c (.int .i64 1)), none, []⟩,
  ⟨some 1, .mov (.t 123), none, []⟩] [14, 122, 123]
def R_slices_pdqsortOrdered_28 : AC := .ops false [⟨some 124, .mov (.t 17), none, []⟩,
  ⟨some 125, .mov (.t 18), none, []⟩,
  ⟨some 126, .bin .geq (.t 124) (.t 125), none, []⟩,
  ⟨some 8, .mov (.t 126), none, []⟩] [16, 17, 18, 113, 124, 125, 126]
def R_slices_pdqsortOrdered_29 : AC := .ops false [⟨some 127, .mov (.t 0), none, []⟩,
  ⟨some 128, .mov (.t 14), none, []⟩,
  ⟨some 129, .bin .add (.t 128) (.c (.int .i64 1)), none, []⟩,
  ⟨some 130, .mov (.t 2), none, []⟩,
  ⟨some 131, .mov (.t 3), none, []⟩,
  ⟨some 132, .call (.fn 72) [.t 127, .t 129, .t 130, .t 131], none, []⟩] [2, 127, 128, 129, 130, 131, 132]
def R_slices_pdqsortOrdered_30 : AC := .ops false [⟨some 133, .mov (.t 14), none, []⟩,
  ⟨some 2, .mov (.t 133), none, []⟩] [14, 133]
def L_slices_pdqsortOrdered_1 : AC := (.block 1 (.seq R_slices_pdqsortOrdered_2 (.seq (.seq R_slices_pdqsortOrdered_3 (.cond (.t 23) (.seq R_slices_pdqsortOrdered_4 .ret) .skip)) (.seq (.seq R_slices_pdqsortOrdered_5 (.cond (.t 29) (.seq R_slices_pdqsortOrdered_6 .ret) .skip)) (.seq (.seq R_slices_pdqsortOrdered_7 (.cond (.t 35) (.seq R_slices_pdqsortOrdered_8 R_slices_pdqsortOrdered_9) .skip)) (.seq R_slices_pdqsortOrdered_10 (.seq (.seq R_slices_pdqsortOrdered_11 (.cond (.t 50) (.seq R_slices_pdqsortOrdered_12 (.seq R_slices_pdqsortOrdered_13 R_slices_pdqsortOrdered_14)) .skip)) (.seq (.seq R_slices_pdqsortOrdered_15 (.cond (.t 68) (.seq R_slices_pdqsortOrdered_16 (.cond (.t 72) .ret .skip)) .skip)) (.seq (.seq R_slices_pdqsortOrdered_17 (.cond (.t 87) (.seq R_slices_pdqsortOrdered_18 (.seq R_slices_pdqsortOrdered_19 (.exit 1))) .skip)) (.seq R_slices_pdqsortOrdered_20 (.seq R_slices_pdqsortOrdered_21 (.seq R_slices_pdqsortOrdered_22 (.seq R_slices_pdqsortOrdered_23 (.seq R_slices_pdqsortOrdered_24 (.cond (.t 113) (.seq R_slices_pdqsortOrdered_25 (.seq R_slices_pdqsortOrdered_26 R_slices_pdqsortOrdered_27)) (.seq R_slices_pdqsortOrdered_28 (.seq R_slices_pdqsortOrdered_29 R_slices_pdqsortOrdered_30)))))))))))))))))
def F_slices_pdqsortOrdered : AFunc := { ntmps := 134, nargs := 4, kills := [[], [], [19, 20, 21], [22], [0, 1, 2, 3, 8, 9, 10, 23, 24, 25, 26, 27], [23, 28], [0, 1, 2, 3, 8, 9, 10, 29, 30, 31, 32, 33], [29, 34], [35, 36, 37, 38, 39], [40, 41], [35, 42, 43, 44, 45, 46, 47, 48], [49], [12, 50, 51, 52, 53, 54], [55, 56, 57, 58, 59, 60], [], [12, 50, 61, 62, 63, 64, 65, 66, 67], [68, 69, 70, 71], [68, 72, 73, 74, 75, 76, 77, 78, 79, 80, 81, 82, 83, 84, 85, 86], [1, 10, 11, 87, 88, 89, 90, 91, 92], [13, 93], [8, 9, 11, 87, 94, 95, 96, 97, 98, 99, 100, 101], [15, 102], [103, 104, 105, 106, 107, 108], [10, 109, 110], [111, 112], [16, 17, 18, 113, 114, 115, 116], [1, 117, 118, 119, 120, 121], [14, 122, 123], [16, 17, 18, 113, 124, 125, 126], [2, 127, 128, 129, 130, 131, 132], [14, 133]], results := [], body := (.seq R_slices_pdqsortOrdered_0 (.seq R_slices_pdqsortOrdered_1 (.block 0 (.loop L_slices_pdqsortOrdered_1)))) }
abbrev k_slices_pdqsortOrdered : Nat := 72
-- math/bits.Len
def R_bits_Len_0 : AC := .ops false [⟨some 2, .mov (.c (.int .i64 0)), none, []⟩] [2]
def R_bits_Len_1 : AC := .ops false [⟨some 3, .mov (.t 0), none, []⟩,
  ⟨some 4, .conv .u32 (.t 3), none, []⟩,
  ⟨some 5, .call (.fn 159) [.t 4], none, []⟩,
  ⟨some 2, .mov (.t 5), none, []⟩] [0, 3, 4, 5]
def R_bits_Len_2 : AC := .ops false [⟨some 6, .mov (.t 0), none, []⟩,
  ⟨some 7, .call (.fn 160) [.t 6], none, []⟩,
  ⟨some 2, .mov (.t 7), none, []⟩] [0, 6, 7]
def F_bits_Len : AFunc := { ntmps := 8, nargs := 1, kills := [[2], [0, 3, 4, 5], [0, 6, 7]], results := [.t 2], body := (.seq R_bits_Len_0 (.seq (.cond (.c (.bool false)) (.seq R_bits_Len_1 .ret) .skip) (.seq R_bits_Len_2 .ret))) }
abbrev k_bits_Len : Nat := 73
-- suffrage/suffrageref04.All
def R_suffrageref04_All_0 : AC := .ops false [⟨some 4, .mov (.c (.bool false)), none, []⟩] [4]
def R_suffrageref04_All_1 : AC := .ops false [⟨some 6, .mov (.t 0), none, []⟩,
  ⟨some 7, .len (.t 6), none, []⟩,
  ⟨some 8, .mov (.t 1), none, []⟩,
  ⟨some 9, .len (.t 8), none, []⟩,
  ⟨some 10, .bin .neq (.t 7) (.t 9), none, []⟩] [6, 7, 8, 9]
def R_suffrageref04_All_2 : AC := .ops false [⟨some 4, .mov (.c (.bool false)), none, []⟩] [0, 1, 10]
def R_suffrageref04_All_3 : AC := .ops false [⟨some 5, .mov (.c (.int .i64 0)), none, []⟩] [10]
def R_suffrageref04_All_4 : AC := .ops false [⟨some 11, .mov (.t 5), none, []⟩,
  ⟨some 12, .mov (.t 0), none, []⟩,
  ⟨some 13, .len (.t 12), none, []⟩,
  ⟨some 14, .bin .lss (.t 11) (.t 13), none, []⟩] [11, 12, 13]
def R_suffrageref04_All_6 : AC := .ops true [⟨some 17, .mov (.t 0), none, []⟩,
  ⟨some 18, .mov (.t 5), none, []⟩,
  ⟨some 19, .ia 3 (.t 17) (.t 18), none, [0, 1]⟩,
  ⟨some 20, .load 3 false (.t 19), none, [2]⟩,
  ⟨some 21, .mov (.t 1), none, []⟩,
  ⟨some 22, .mov (.t 5), none, []⟩,
  ⟨some 23, .ia 3 (.t 21) (.t 22), none, [4, 5]⟩,
  ⟨some 24, .load 3 false (.t 23), none, [6]⟩,
  ⟨some 25, .call (.fn 75) [.t 20, .t 24], none, [3, 7]⟩,
  ⟨some 26, .un .not (.t 25), none, [8]⟩] [14, 17, 18, 19, 20, 21, 22, 23, 24, 25]
def R_suffrageref04_All_7 : AC := .ops false [⟨some 4, .mov (.c (.bool false)), none, []⟩] [0, 1, 5, 26]
def R_suffrageref04_All_5 : AC := .ops false [⟨some 15, .mov (.t 5), none, []⟩,
  ⟨some 16, .bin .add (.t 15) (.c (.int .i64 1)), none, []⟩,
  ⟨some 5, .mov (.t 16), none, []⟩] [15, 16, 26]
def L_suffrageref04_All_1 : AC := (.seq (.seq R_suffrageref04_All_4 (.cond (.t 14) .skip (.exit 0))) (.seq (.block 1 (.seq R_suffrageref04_All_6 (.cond (.t 26) (.seq R_suffrageref04_All_7 .ret) .skip))) R_suffrageref04_All_5))
def R_suffrageref04_All_8 : AC := .ops false [⟨some 4, .mov (.c (.bool true)), none, []⟩] [0, 1, 5, 14]
def F_suffrageref04_All : AFunc := { ntmps := 27, nargs := 2, kills := [[4], [6, 7, 8, 9], [0, 1, 10], [10], [11, 12, 13], [15, 16, 26], [14, 17, 18, 19, 20, 21, 22, 23, 24, 25], [0, 1, 5, 26], [0, 1, 5, 14]], results := [.t 4], body := (.seq R_suffrageref04_All_0 (.seq (.seq R_suffrageref04_All_1 (.cond (.t 10) (.seq R_suffrageref04_All_2 .ret) .skip)) (.seq (.seq R_suffrageref04_All_3 (.block 0 (.loop L_suffrageref04_All_1))) (.seq R_suffrageref04_All_8 .ret)))) }
abbrev k_suffrageref04_All : Nat := 74
-- suffrage/suffrageref04.Same
def R_suffrageref04_Same_0 : AC := .ops false [⟨some 2, .box (.t 0), none, []⟩,
  ⟨some 3, .box (.t 1), none, []⟩,
  ⟨some 4, .mov (.c (.bool false)), none, []⟩] [0, 1, 4]
def R_suffrageref04_Same_1 : AC := .ops false [⟨some 5, .fa (.t 2) 0, none, []⟩,
  ⟨some 6, .load 1 true (.t 5), none, []⟩,
  ⟨some 7, .fa (.t 3) 0, none, []⟩,
  ⟨some 8, .load 1 true (.t 7), none, []⟩,
  ⟨some 9, .beq false (.t 6) (.t 8), none, []⟩,
  ⟨some 10, .mov (.t 9), none, []⟩,
  ⟨some 11, .fa (.t 2) 1, some (10, true), []⟩,
  ⟨some 12, .load 1 true (.t 11), some (10, true), []⟩,
  ⟨some 13, .fa (.t 3) 1, some (10, true), []⟩,
  ⟨some 14, .load 1 true (.t 13), some (10, true), []⟩,
  ⟨some 15, .call (.fn 161) [.t 12, .t 14], some (10, true), []⟩,
  ⟨some 16, .pick (.t 10) (.t 15) (.c (.bool false)), none, []⟩,
  ⟨some 17, .mov (.t 16), none, []⟩,
  ⟨some 18, .fa (.t 2) 2, some (17, true), []⟩,
  ⟨some 19, .load 1 true (.t 18), some (17, true), []⟩,
  ⟨some 20, .fa (.t 3) 2, some (17, true), []⟩,
  ⟨some 21, .load 1 true (.t 20), some (17, true), []⟩,
  ⟨some 22, .call (.fn 161) [.t 19, .t 21], some (17, true), []⟩,
  ⟨some 23, .pick (.t 17) (.t 22) (.c (.bool false)), none, []⟩,
  ⟨some 4, .mov (.t 23), none, []⟩] [2, 3, 5, 6, 7, 8, 9, 10, 11, 12, 13, 14, 15, 16, 17, 18, 19, 20, 21, 22, 23]
def F_suffrageref04_Same : AFunc := { ntmps := 24, nargs := 2, kills := [[0, 1, 4], [2, 3, 5, 6, 7, 8, 9, 10, 11, 12, 13, 14, 15, 16, 17, 18, 19, 20, 21, 22, 23]], results := [.t 4], body := (.seq R_suffrageref04_Same_0 (.seq R_suffrageref04_Same_1 .ret)) }
abbrev k_suffrageref04_Same : Nat := 75
-- suffrage/ratio.lowest
def R_ratio_lowest_0 : AC := .ops false [⟨some 6, .alloc [.bool false, .lst 0 [] (some 0), .lst 0 [] (some 0)], none, []⟩] []
def R_ratio_lowest_1 : AC := .ops false [⟨some 10, .mov (.t 1), none, []⟩,
  ⟨some 11, .mov (.t 2), none, []⟩,
  ⟨some 12, .call (.fn 162) [.t 10, .t 11], none, []⟩,
  ⟨some 9, .mov (.t 12), none, []⟩,
  ⟨some 13, .ext (.t 9) 0, none, []⟩,
  ⟨some 14, .ext (.t 9) 1, none, []⟩,
  ⟨some 7, .mov (.t 13), none, []⟩,
  ⟨some 8, .mov (.t 14), none, []⟩] [8, 9, 10, 11, 12, 13, 14]
def R_ratio_lowest_2 : AC := .ops false [⟨some 16, .mov (.t 1), none, []⟩,
  ⟨some 17, .mov (.t 7), none, []⟩,
  ⟨some 18, .call (.fn 163) [.t 16, .t 17], none, []⟩,
  ⟨some 15, .mov (.t 18), none, []⟩,
  ⟨some 19, .ext (.t 15) 0, none, []⟩,
  ⟨some 20, .ext (.t 15) 1, none, []⟩,
  ⟨some 21, .ext (.t 15) 2, none, []⟩,
  ⟨some 1, .mov (.t 19), none, []⟩] [15, 16, 17, 18, 19, 20, 21]
def R_ratio_lowest_3 : AC := .ops false [⟨some 23, .mov (.t 2), none, []⟩,
  ⟨some 24, .mov (.t 7), none, []⟩,
  ⟨some 25, .call (.fn 163) [.t 23, .t 24], none, []⟩,
  ⟨some 22, .mov (.t 25), none, []⟩,
  ⟨some 26, .ext (.t 22) 0, none, []⟩,
  ⟨some 27, .ext (.t 22) 1, none, []⟩,
  ⟨some 28, .ext (.t 22) 2, none, []⟩,
  ⟨some 2, .mov (.t 26), none, []⟩] [7, 22, 23, 24, 25, 26, 27, 28]
def R_ratio_lowest_4 : AC := .ops false [⟨some 29, .mov (.t 0), none, []⟩,
  ⟨some 30, .mov (.t 29), none, []⟩,
  ⟨some 31, .mov (.t 1), some (30, true), []⟩,
  ⟨some 32, .len (.t 31), some (30, true), []⟩,
  ⟨some 33, .bin .gtr (.t 32) (.c (.int .i64 0)), some (30, true), []⟩,
  ⟨some 34, .pick (.t 30) (.t 33) (.c (.bool false)), none, []⟩,
  ⟨some 35, .mov (.t 1), none, []⟩,
  ⟨some 36, .mov (.t 2), none, []⟩,
  ⟨some 37, .build [.bool false, .lst 0 [] (some 0), .lst 0 [] (some 0)] [(0, 1, .t 34), (1, 1, .t 35), (2, 1, .t 36)], none, []⟩,
  ⟨none, .store 3 (.t 6) (.t 37), none, []⟩] [0, 1, 2, 29, 30, 31, 32, 33, 34, 35, 36, 37]
def F_ratio_lowest : AFunc := { ntmps := 38, nargs := 3, kills := [[], [8, 9, 10, 11, 12, 13, 14], [15, 16, 17, 18, 19, 20, 21], [7, 22, 23, 24, 25, 26, 27, 28], [0, 1, 2, 29, 30, 31, 32, 33, 34, 35, 36, 37]], results := [.cell 6 3 false], body := (.seq R_ratio_lowest_0 (.seq R_ratio_lowest_1 (.seq R_ratio_lowest_2 (.seq R_ratio_lowest_3 (.seq R_ratio_lowest_4 .ret))))) }
abbrev k_ratio_lowest : Nat := 76
-- suffrage/nat.Of
def R_nat_Of_0 : AC := .ops false [⟨some 2, .mov (.c (.lst 0 [] (some 0))), none, []⟩] [2]
def R_nat_Of_1 : AC := .ops false [⟨some 3, .mov (.t 0), none, []⟩,
  ⟨some 4, .conv .u32 (.t 3), none, []⟩,
  ⟨some 5, .mov (.t 0), none, []⟩,
  ⟨some 6, .bin .shr (.t 5) (.c (.int .u64 32)), none, []⟩,
  ⟨some 7, .conv .u32 (.t 6), none, []⟩,
  ⟨some 8, .bslice 1 [.int .u32 0] 2 [(0, .t 4), (1, .t 7)], none, []⟩,
  ⟨some 9, .call (.fn 164) [.t 8], none, []⟩,
  ⟨some 2, .mov (.t 9), none, []⟩] [0, 3, 4, 5, 6, 7, 8, 9]
def F_nat_Of : AFunc := { ntmps := 10, nargs := 1, kills := [[2], [0, 3, 4, 5, 6, 7, 8, 9]], results := [.t 2], body := (.seq R_nat_Of_0 (.seq R_nat_Of_1 .ret)) }
abbrev k_nat_Of : Nat := 77
-- suffrage/ratio.size
def R_ratio_size_0 : AC := .ops false [⟨some 2, .mov (.c (.int .u64 0)), none, []⟩] [2]
def R_ratio_size_1 : AC := .ops false [⟨some 3, .mov (.t 0), none, []⟩,
  ⟨some 4, .bin .lss (.t 3) (.c (.int .i64 0)), none, []⟩] [3]
def R_ratio_size_2 : AC := .ops false [⟨some 5, .mov (.t 0), none, []⟩,
  ⟨some 6, .bin .add (.t 5) (.c (.int .i64 1)), none, []⟩,
  ⟨some 7, .un .neg (.t 6), none, []⟩,
  ⟨some 8, .conv .u64 (.t 7), none, []⟩,
  ⟨some 9, .bin .add (.t 8) (.c (.int .u64 1)), none, []⟩,
  ⟨some 2, .mov (.t 9), none, []⟩] [0, 4, 5, 6, 7, 8, 9]
def R_ratio_size_3 : AC := .ops false [⟨some 10, .mov (.t 0), none, []⟩,
  ⟨some 11, .conv .u64 (.t 10), none, []⟩,
  ⟨some 2, .mov (.t 11), none, []⟩] [0, 4, 10, 11]
def F_ratio_size : AFunc := { ntmps := 12, nargs := 1, kills := [[2], [3], [0, 4, 5, 6, 7, 8, 9], [0, 4, 10, 11]], results := [.t 2], body := (.seq R_ratio_size_0 (.seq (.seq R_ratio_size_1 (.cond (.t 4) (.seq R_ratio_size_2 .ret) .skip)) (.seq R_ratio_size_3 .ret))) }
abbrev k_ratio_size : Nat := 78
-- suffrage/ratio.one
def R_ratio_one_0 : AC := .ops false [⟨some 0, .mov (.c (.lst 0 [] (some 0))), none, []⟩] [0]
def R_ratio_one_1 : AC := .ops false [⟨some 1, .bslice 1 [.int .u32 0] 1 [(0, .c (.int .u32 1))], none, []⟩,
  ⟨some 0, .mov (.t 1), none, []⟩] [1]
def F_ratio_one : AFunc := { ntmps := 2, nargs := 0, kills := [[0], [1]], results := [.t 0], body := (.seq R_ratio_one_0 (.seq R_ratio_one_1 .ret)) }
abbrev k_ratio_one : Nat := 79
-- slices.ContainsFunc[[]string,string]
def R_slices_ContainsFunc_2_0 : AC := .ops false [⟨some 4, .mov (.c (.bool false)), none, []⟩] [4]
def R_slices_ContainsFunc_2_1 : AC := .ops false [⟨some 5, .mov (.t 0), none, []⟩,
  ⟨some 6, .mov (.t 1), none, []⟩,
  ⟨some 7, .call (.fn 178) [.t 5, .t 6], none, []⟩,
  ⟨some 8, .bin .geq (.t 7) (.c (.int .i64 0)), none, []⟩,
  ⟨some 4, .mov (.t 8), none, []⟩] [0, 1, 5, 6, 7, 8]
def F_slices_ContainsFunc_2 : AFunc := { ntmps := 9, nargs := 2, kills := [[4], [0, 1, 5, 6, 7, 8]], results := [.t 4], body := (.seq R_slices_ContainsFunc_2_0 (.seq R_slices_ContainsFunc_2_1 .ret)) }
abbrev k_slices_ContainsFunc_2 : Nat := 89
-- suffrage/contest.odd$1
def R_contest_odd_1_0 : AC := .ops false [⟨some 2, .mov (.c (.bool false)), none, []⟩] [2]
def R_contest_odd_1_1 : AC := .ops false [⟨some 3, .mov (.f 91), none, []⟩] []
def R_contest_odd_1_2 : AC := .ops false [⟨some 4, .mov (.t 0), none, []⟩,
  ⟨some 5, .bin .eql (.t 4) (.c (.str [])), none, []⟩,
  ⟨some 6, .mov (.t 5), none, []⟩,
  ⟨some 7, .mov (.t 0), some (6, false), []⟩,
  ⟨some 8, .slen (.t 7), some (6, false), []⟩,
  ⟨some 9, .bin .gtr (.t 8) (.c (.int .i64 40)), some (6, false), []⟩,
  ⟨some 10, .pick (.t 6) (.c (.bool true)) (.t 9), none, []⟩,
  ⟨some 11, .mov (.t 10), none, []⟩,
  ⟨some 12, .mov (.t 0), some (11, false), []⟩,
  ⟨some 13, .bytes (.t 12), some (11, false), []⟩,
  ⟨some 14, .mov (.t 3), some (11, false), []⟩,
  ⟨some 15, .call (.fn 92) [.t 13, .t 14], some (11, false), []⟩,
  ⟨some 16, .pick (.t 11) (.c (.bool true)) (.t 15), none, []⟩,
  ⟨some 2, .mov (.t 16), none, []⟩] [0, 3, 4, 5, 6, 7, 8, 9, 10, 11, 12, 13, 14, 15, 16]
def F_contest_odd_1 : AFunc := { ntmps := 17, nargs := 1, kills := [[2], [], [0, 3, 4, 5, 6, 7, 8, 9, 10, 11, 12, 13, 14, 15, 16]], results := [.t 2], body := (.seq R_contest_odd_1_0 (.seq R_contest_odd_1_1 (.seq R_contest_odd_1_2 .ret))) }
abbrev k_contest_odd_1 : Nat := 90
-- suffrage/contest.odd$1$1
def R_contest_odd_1_1_0 : AC := .ops false [⟨some 2, .mov (.c (.bool false)), none, []⟩] [2]
def R_contest_odd_1_1_1 : AC := .ops false [⟨some 3, .mov (.t 0), none, []⟩,
  ⟨some 4, .bin .lss (.t 3) (.c (.int .u8 33)), none, []⟩,
  ⟨some 5, .mov (.t 4), none, []⟩,
  ⟨some 6, .mov (.t 0), some (5, false), []⟩,
  ⟨some 7, .bin .gtr (.t 6) (.c (.int .u8 126)), some (5, false), []⟩,
  ⟨some 8, .pick (.t 5) (.c (.bool true)) (.t 7), none, []⟩,
  ⟨some 2, .mov (.t 8), none, []⟩] [0, 3, 4, 5, 6, 7, 8]
def F_contest_odd_1_1 : AFunc := { ntmps := 9, nargs := 1, kills := [[2], [0, 3, 4, 5, 6, 7, 8]], results := [.t 2], body := (.seq R_contest_odd_1_1_0 (.seq R_contest_odd_1_1_1 .ret)) }
abbrev k_contest_odd_1_1 : Nat := 91
-- slices.ContainsFunc[[]byte,byte]
def R_slices_ContainsFunc_3_0 : AC := .ops false [⟨some 4, .mov (.c (.bool false)), none, []⟩] [4]
def R_slices_ContainsFunc_3_1 : AC := .ops false [⟨some 5, .mov (.t 0), none, []⟩,
  ⟨some 6, .mov (.t 1), none, []⟩,
  ⟨some 7, .call (.fn 179) [.t 5, .t 6], none, []⟩,
  ⟨some 8, .bin .geq (.t 7) (.c (.int .i64 0)), none, []⟩,
  ⟨some 4, .mov (.t 8), none, []⟩] [0, 1, 5, 6, 7, 8]
def F_slices_ContainsFunc_3 : AFunc := { ntmps := 9, nargs := 2, kills := [[4], [0, 1, 5, 6, 7, 8]], results := [.t 4], body := (.seq R_slices_ContainsFunc_3_0 (.seq R_slices_ContainsFunc_3_1 .ret)) }
abbrev k_slices_ContainsFunc_3 : Nat := 92
-- slices.Contains[[]string,string]
def R_slices_Contains_0 : AC := .ops false [⟨some 4, .mov (.c (.bool false)), none, []⟩] [4]
def R_slices_Contains_1 : AC := .ops false [⟨some 5, .mov (.t 0), none, []⟩,
  ⟨some 6, .mov (.t 1), none, []⟩,
  ⟨some 7, .call (.fn 180) [.t 5, .t 6], none, []⟩,
  ⟨some 8, .bin .geq (.t 7) (.c (.int .i64 0)), none, []⟩,
  ⟨some 4, .mov (.t 8), none, []⟩] [0, 1, 5, 6, 7, 8]
def F_slices_Contains : AFunc := { ntmps := 9, nargs := 2, kills := [[4], [0, 1, 5, 6, 7, 8]], results := [.t 4], body := (.seq R_slices_Contains_0 (.seq R_slices_Contains_1 .ret)) }
abbrev k_slices_Contains : Nat := 93
-- cmp.Compare[int]
def R_cmp_Compare_0 : AC := .ops false [⟨some 4, .mov (.c (.int .i64 0)), none, []⟩] [4]
def R_cmp_Compare_1 : AC := .ops false [⟨some 7, .mov (.t 0), none, []⟩,
  ⟨some 8, .call (.fn 181) [.t 7], none, []⟩,
  ⟨some 5, .mov (.t 8), none, []⟩] [7, 8]
def R_cmp_Compare_2 : AC := .ops false [⟨some 9, .mov (.t 1), none, []⟩,
  ⟨some 10, .call (.fn 181) [.t 9], none, []⟩,
  ⟨some 6, .mov (.t 10), none, []⟩] [9, 10]
def R_cmp_Compare_3 : AC := .ops false [⟨some 11, .mov (.t 5), none, []⟩] [5]
def R_cmp_Compare_4 : AC := .ops false [⟨some 12, .mov (.t 6), none, []⟩] [0, 1, 6, 11]
def R_cmp_Compare_5 : AC := .ops false [⟨some 4, .mov (.c (.int .i64 0)), none, []⟩] [12]
def R_cmp_Compare_6 : AC := .ops false [⟨some 4, .mov (.c (.int .i64 (-1))), none, []⟩] [12]
def R_cmp_Compare_7 : AC := .ops false [⟨some 13, .mov (.t 6), none, []⟩] [6, 11]
def R_cmp_Compare_8 : AC := .ops false [⟨some 4, .mov (.c (.int .i64 1)), none, []⟩] [0, 1, 13]
def R_cmp_Compare_9 : AC := .ops false [⟨some 14, .mov (.t 0), none, []⟩,
  ⟨some 15, .mov (.t 1), none, []⟩,
  ⟨some 16, .bin .lss (.t 14) (.t 15), none, []⟩] [13, 14, 15]
def R_cmp_Compare_10 : AC := .ops false [⟨some 4, .mov (.c (.int .i64 (-1))), none, []⟩] [0, 1, 16]
def R_cmp_Compare_11 : AC := .ops false [⟨some 17, .mov (.t 0), none, []⟩,
  ⟨some 18, .mov (.t 1), none, []⟩,
  ⟨some 19, .bin .gtr (.t 17) (.t 18), none, []⟩] [0, 1, 16, 17, 18]
def R_cmp_Compare_12 : AC := .ops false [⟨some 4, .mov (.c (.int .i64 1)), none, []⟩] [19]
def R_cmp_Compare_13 : AC := .ops false [⟨some 4, .mov (.c (.int .i64 0)), none, []⟩] [19]
def F_cmp_Compare : AFunc := { ntmps := 20, nargs := 2, kills := [[4], [7, 8], [9, 10], [5], [0, 1, 6, 11], [12], [12], [6, 11], [0, 1, 13], [13, 14, 15], [0, 1, 16], [0, 1, 16, 17, 18], [19], [19]], results := [.t 4], body := (.seq R_cmp_Compare_0 (.seq R_cmp_Compare_1 (.seq R_cmp_Compare_2 (.seq (.seq R_cmp_Compare_3 (.cond (.t 11) (.seq (.seq R_cmp_Compare_4 (.cond (.t 12) (.seq R_cmp_Compare_5 .ret) .skip)) (.seq R_cmp_Compare_6 .ret)) .skip)) (.seq (.seq R_cmp_Compare_7 (.cond (.t 13) (.seq R_cmp_Compare_8 .ret) .skip)) (.seq (.seq R_cmp_Compare_9 (.cond (.t 16) (.seq R_cmp_Compare_10 .ret) .skip)) (.seq (.seq R_cmp_Compare_11 (.cond (.t 19) (.seq R_cmp_Compare_12 .ret) .skip)) (.seq R_cmp_Compare_13 .ret)))))))) }
abbrev k_cmp_Compare : Nat := 94
end Go.Proofs.YtgajemhdpjomnaaGreat
