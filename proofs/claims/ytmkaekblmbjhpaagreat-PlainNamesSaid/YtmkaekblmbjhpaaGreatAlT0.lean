/- The functions in the abstract language, worked out by Lean. -/
import Derived.Test.YtmkaekblmbjhpaaGreatAlX
set_option linter.unusedVariables false
set_option maxHeartbeats 1000000
set_option maxRecDepth 100000
namespace Go.Proofs.YtmkaekblmbjhpaaGreat
-- suffrage/suffragelaw44.PlainNames
def R_suffragelaw44_PlainNames_0 : AC := .ops false [⟨some 0, .mov (.c (.bool false)), none, []⟩] [0]
def R_suffragelaw44_PlainNames_1 : AC := .ops false [⟨some 21, .call (.fn 4) [], none, []⟩,
  ⟨some 1, .alloc [.str [], .lst 0 [] (some 0), .int .i64 0, .int .u8 0, .int .u8 0, .int .u8 0, .int .i64 0, .bool false, .lst 0 [] (some 0), .lst 0 [] (some 0), .bool false, .lst 0 [] (some 0), .lst 0 [] (some 0), .lst 0 [] (some 0)], none, []⟩,
  ⟨none, .store 14 (.t 1) (.t 21), none, []⟩] [21]
def R_suffragelaw44_PlainNames_2 : AC := .ops false [⟨some 23, .load 14 false (.t 1), none, []⟩,
  ⟨some 24, .build [.int .u8 0, .str [], .int .i64 0, .str [], .lst 0 [] (some 0), .lst 0 [] (some 0), .lst 0 [] (some 0), .lst 0 [] (some 0)] [(0, 1, .c (.int .u8 1)), (1, 1, .c (.str [97, 110, 110]))], none, []⟩,
  ⟨some 25, .build [.int .u8 0, .str [], .int .i64 0, .str [], .lst 0 [] (some 0), .lst 0 [] (some 0), .lst 0 [] (some 0), .lst 0 [] (some 0)] [(0, 1, .c (.int .u8 1)), (1, 1, .c (.str [97, 110, 110]))], none, []⟩,
  ⟨some 26, .build [.int .u8 0, .str [], .int .i64 0, .str [], .lst 0 [] (some 0), .lst 0 [] (some 0), .lst 0 [] (some 0), .lst 0 [] (some 0)] [(0, 1, .c (.int .u8 1)), (1, 1, .c (.str [97, 32, 98]))], none, []⟩,
  ⟨some 27, .build [.int .u8 0, .str [], .int .i64 0, .str [], .lst 0 [] (some 0), .lst 0 [] (some 0), .lst 0 [] (some 0), .lst 0 [] (some 0)] [(0, 1, .c (.int .u8 3)), (1, 1, .c (.str [97, 110, 110]))], none, []⟩,
  ⟨some 28, .build [.int .u8 0, .str [], .int .i64 0, .str [], .lst 0 [] (some 0), .lst 0 [] (some 0), .lst 0 [] (some 0), .lst 0 [] (some 0)] [(0, 1, .c (.int .u8 2))], none, []⟩,
  ⟨some 29, .build [.int .u8 0, .str [], .int .i64 0, .str [], .lst 0 [] (some 0), .lst 0 [] (some 0), .lst 0 [] (some 0), .lst 0 [] (some 0)] [(0, 1, .c (.int .u8 2))], none, []⟩,
  ⟨some 30, .build [.int .u8 0, .str [], .int .i64 0, .str [], .lst 0 [] (some 0), .lst 0 [] (some 0), .lst 0 [] (some 0), .lst 0 [] (some 0)] [(0, 1, .c (.int .u8 3)), (1, 1, .c (.str [97, 110, 110]))], none, []⟩,
  ⟨some 31, .build [.int .u8 0, .str [], .int .i64 0, .str [], .lst 0 [] (some 0), .lst 0 [] (some 0), .lst 0 [] (some 0), .lst 0 [] (some 0)] [(0, 1, .c (.int .u8 6))], none, []⟩,
  ⟨some 32, .build [.int .u8 0, .str [], .int .i64 0, .str [], .lst 0 [] (some 0), .lst 0 [] (some 0), .lst 0 [] (some 0), .lst 0 [] (some 0)] [(0, 1, .c (.int .u8 4)), (1, 1, .c (.str [97, 110, 110]))], none, []⟩,
  ⟨some 33, .build [.int .u8 0, .str [], .int .i64 0, .str [], .lst 0 [] (some 0), .lst 0 [] (some 0), .lst 0 [] (some 0), .lst 0 [] (some 0)] [(0, 1, .c (.int .u8 4)), (1, 1, .c (.str [97, 110, 110]))], none, []⟩,
  ⟨some 34, .build [.int .u8 0, .str [], .int .i64 0, .str [], .lst 0 [] (some 0), .lst 0 [] (some 0), .lst 0 [] (some 0), .lst 0 [] (some 0)] [(0, 1, .c (.int .u8 6))], none, []⟩,
  ⟨some 35, .build [.int .u8 0, .str [], .int .i64 0, .str [], .lst 0 [] (some 0), .lst 0 [] (some 0), .lst 0 [] (some 0), .lst 0 [] (some 0)] [(0, 1, .c (.int .u8 7))], none, []⟩,
  ⟨some 36, .bslice 8 [.int .u8 0, .str [], .int .i64 0, .str [], .lst 0 [] (some 0), .lst 0 [] (some 0), .lst 0 [] (some 0), .lst 0 [] (some 0)] 12 [(0, .t 24), (1, .t 25), (2, .t 26), (3, .t 27), (4, .t 28), (5, .t 29), (6, .t 30), (7, .t 31), (8, .t 32), (9, .t 33), (10, .t 34), (11, .t 35)], none, []⟩,
  ⟨some 37, .call (.fn 5) [.t 23, .t 36], none, []⟩,
  ⟨some 22, .mov (.t 37), none, []⟩,
  ⟨some 38, .ext (.t 22) 0, none, []⟩,
  ⟨some 39, .ext (.t 22) 1, none, []⟩,
  ⟨some 40, .ext (.t 22) 2, none, []⟩,
  ⟨some 2, .mov (.t 38), none, []⟩,
  ⟨some 3, .mov (.t 39), none, []⟩,
  ⟨some 4, .mov (.t 40), none, []⟩] [22, 23, 24, 25, 26, 27, 28, 29, 30, 31, 32, 33, 34, 35, 36, 37, 38, 39, 40]
def R_suffragelaw44_PlainNames_3 : AC := .ops false [⟨some 41, .bslice 1 [.bool false] 12 [(0, .c (.bool true)), (1, .c (.bool false)), (2, .c (.bool false)), (3, .c (.bool false)), (4, .c (.bool true)), (5, .c (.bool false)), (6, .c (.bool true)), (7, .c (.bool false)), (8, .c (.bool true)), (9, .c (.bool false)), (10, .c (.bool true)), (11, .c (.bool false))], none, []⟩,
  ⟨some 5, .mov (.t 41), none, []⟩] [41]
def R_suffragelaw44_PlainNames_4 : AC := .ops false [⟨some 43, .build [.str [], .lst 0 [] (some 0), .int .i64 0, .int .u8 0, .int .u8 0, .int .u8 0, .int .i64 0, .bool false, .lst 0 [] (some 0), .lst 0 [] (some 0), .bool false, .lst 0 [] (some 0), .lst 0 [] (some 0), .lst 0 [] (some 0)] [], none, []⟩,
  ⟨some 44, .call (.fn 5) [.t 43, .c (.lst 0 [] (some 0))], none, []⟩,
  ⟨some 42, .mov (.t 44), none, []⟩,
  ⟨some 45, .ext (.t 42) 0, none, []⟩,
  ⟨some 46, .ext (.t 42) 1, none, []⟩,
  ⟨some 47, .ext (.t 42) 2, none, []⟩,
  ⟨some 6, .mov (.t 45), none, []⟩,
  ⟨some 7, .mov (.t 46), none, []⟩,
  ⟨some 8, .mov (.t 47), none, []⟩] [6, 7, 42, 43, 44, 45, 46, 47]
def R_suffragelaw44_PlainNames_5 : AC := .ops true [⟨some 49, .load 14 false (.t 1), none, []⟩,
  ⟨some 50, .mkslice 8 144 [.int .u8 0, .str [], .int .i64 0, .str [], .lst 0 [] (some 0), .lst 0 [] (some 0), .lst 0 [] (some 0), .lst 0 [] (some 0)] (.c (.int .i64 513)) (.c (.int .i64 513)), none, []⟩,
  ⟨some 51, .call (.fn 5) [.t 49, .t 50], none, [0, 1]⟩,
  ⟨some 48, .mov (.t 51), none, [2]⟩,
  ⟨some 52, .ext (.t 48) 0, none, [3]⟩,
  ⟨some 53, .ext (.t 48) 1, none, [3]⟩,
  ⟨some 54, .ext (.t 48) 2, none, [3]⟩,
  ⟨some 9, .mov (.t 52), none, [4, 2, 0, 1, 2, 3, 4]⟩,
  ⟨some 10, .mov (.t 53), none, [5, 7, 0, 1, 2, 3, 4, 5, 7]⟩,
  ⟨some 11, .mov (.t 54), none, [6, 8, 0, 1, 2, 3, 4, 5, 6, 7, 8]⟩] [9, 10, 48, 49, 50, 51, 52, 53, 54]
def R_suffragelaw44_PlainNames_6 : AC := .ops false [⟨some 12, .mov (.f 6), none, []⟩] []
def R_suffragelaw44_PlainNames_7 : AC := .ops true [⟨some 56, .fa (.t 1) 0, none, []⟩,
  ⟨some 57, .load 4 false (.t 56), none, [0]⟩,
  ⟨some 58, .mov (.t 12), none, []⟩,
  ⟨some 59, .call (.dyn (.t 58)) [.c (.int .i64 0)], none, [2]⟩,
  ⟨some 60, .mov (.t 12), none, []⟩,
  ⟨some 61, .call (.dyn (.t 60)) [.c (.int .i64 1)], none, [4, 3]⟩,
  ⟨some 62, .mov (.t 12), none, []⟩,
  ⟨some 63, .call (.dyn (.t 62)) [.c (.int .i64 1)], none, [6, 5]⟩,
  ⟨some 64, .bslice 2 [.int .u8 0, .lst 0 [] (some 0)] 3 [(0, .t 59), (1, .t 61), (2, .t 63)], none, [3, 5, 7]⟩,
  ⟨some 65, .bslice 1 [.int .i64 0] 2 [(0, .c (.int .i64 0)), (1, .c (.int .i64 1))], none, []⟩,
  ⟨some 66, .call (.fn 7) [.t 57, .t 64, .t 65], none, [1, 8, 9, 7]⟩,
  ⟨some 55, .mov (.t 66), none, [10]⟩,
  ⟨some 67, .ext (.t 55) 0, none, [11]⟩,
  ⟨some 68, .ext (.t 55) 1, none, [11]⟩,
  ⟨some 13, .mov (.t 67), none, [12, 10, 0, 1, 2, 3, 4, 5, 6, 7, 8, 9, 10, 11, 12]⟩,
  ⟨some 14, .mov (.t 68), none, [13, 14, 0, 1, 2, 3, 4, 5, 6, 7, 8, 9, 10, 11, 12, 13, 14]⟩] [55, 56, 57, 58, 59, 60, 61, 62, 63, 64, 65, 66, 67, 68]
def R_suffragelaw44_PlainNames_8 : AC := .ops true [⟨some 70, .fa (.t 1) 0, none, []⟩,
  ⟨some 71, .load 4 false (.t 70), none, [0]⟩,
  ⟨some 72, .mov (.t 12), none, []⟩,
  ⟨some 73, .call (.dyn (.t 72)) [.c (.int .i64 0)], none, [2]⟩,
  ⟨some 74, .mov (.t 12), none, []⟩,
  ⟨some 75, .call (.dyn (.t 74)) [.c (.int .i64 1)], none, [4, 3]⟩,
  ⟨some 76, .bslice 2 [.int .u8 0, .lst 0 [] (some 0)] 2 [(0, .t 73), (1, .t 75)], none, [3, 5]⟩,
  ⟨some 77, .bslice 1 [.int .i64 0] 2 [(0, .c (.int .i64 1)), (1, .c (.int .i64 0))], none, []⟩,
  ⟨some 78, .call (.fn 7) [.t 71, .t 76, .t 77], none, [1, 6, 7, 5]⟩,
  ⟨some 69, .mov (.t 78), none, [8]⟩,
  ⟨some 79, .ext (.t 69) 0, none, [9]⟩,
  ⟨some 80, .ext (.t 69) 1, none, [9]⟩,
  ⟨some 15, .mov (.t 79), none, [10, 8, 0, 1, 2, 3, 4, 5, 6, 7, 8, 9, 10]⟩,
  ⟨some 16, .mov (.t 80), none, [11, 12, 0, 1, 2, 3, 4, 5, 6, 7, 8, 9, 10, 11, 12]⟩] [12, 69, 70, 71, 72, 73, 74, 75, 76, 77, 78, 79, 80]
def R_suffragelaw44_PlainNames_9 : AC := .ops false [⟨some 82, .fa (.t 1) 0, none, []⟩,
  ⟨some 83, .load 4 false (.t 82), none, []⟩,
  ⟨some 84, .build [.int .u8 0, .lst 0 [] (some 0)] [(0, 1, .c (.int .u8 1))], none, []⟩,
  ⟨some 85, .bslice 2 [.int .u8 0, .lst 0 [] (some 0)] 1 [(0, .t 84)], none, []⟩,
  ⟨some 86, .bslice 1 [.int .i64 0] 2 [(0, .c (.int .i64 0)), (1, .c (.int .i64 1))], none, []⟩,
  ⟨some 87, .call (.fn 7) [.t 83, .t 85, .t 86], none, []⟩,
  ⟨some 81, .mov (.t 87), none, []⟩,
  ⟨some 88, .ext (.t 81) 0, none, []⟩,
  ⟨some 89, .ext (.t 81) 1, none, []⟩,
  ⟨some 17, .mov (.t 88), none, []⟩,
  ⟨some 18, .mov (.t 89), none, []⟩] [1, 17, 81, 82, 83, 84, 85, 86, 87, 88, 89]
def R_suffragelaw44_PlainNames_10 : AC := .ops false [⟨some 91, .build [.str [], .lst 0 [] (some 0), .int .i64 0, .int .u8 0] [], none, []⟩,
  ⟨some 92, .call (.fn 7) [.t 91, .c (.lst 0 [] (some 0)), .c (.lst 0 [] (some 0))], none, []⟩,
  ⟨some 90, .mov (.t 92), none, []⟩,
  ⟨some 93, .ext (.t 90) 0, none, []⟩,
  ⟨some 94, .ext (.t 90) 1, none, []⟩,
  ⟨some 19, .mov (.t 93), none, []⟩,
  ⟨some 20, .mov (.t 94), none, []⟩] [19, 90, 91, 92, 93, 94]
def R_suffragelaw44_PlainNames_11 : AC := .ops false [⟨some 95, .call (.fn 8) [], none, []⟩,
  ⟨some 96, .mov (.t 95), none, []⟩,
  ⟨some 97, .mov (.t 4), some (96, true), []⟩,
  ⟨some 98, .bin .eql (.t 97) (.c (.int .i64 0)), some (96, true), []⟩,
  ⟨some 99, .pick (.t 96) (.t 98) (.c (.bool false)), none, []⟩,
  ⟨some 100, .mov (.t 99), none, []⟩,
  ⟨some 101, .mov (.t 2), some (100, true), []⟩,
  ⟨some 102, .mov (.t 5), some (100, true), []⟩,
  ⟨some 103, .call (.fn 9) [.t 101, .t 102], some (100, true), []⟩,
  ⟨some 104, .pick (.t 100) (.t 103) (.c (.bool false)), none, []⟩,
  ⟨some 105, .mov (.t 104), none, []⟩,
  ⟨some 106, .mov (.t 3), some (105, true), []⟩,
  ⟨some 107, .len (.t 106), some (105, true), []⟩,
  ⟨some 108, .bin .eql (.t 107) (.c (.int .i64 0)), some (105, true), []⟩,
  ⟨some 109, .pick (.t 105) (.t 108) (.c (.bool false)), none, []⟩,
  ⟨some 110, .mov (.t 109), none, []⟩,
  ⟨some 111, .mov (.t 8), some (110, true), []⟩,
  ⟨some 112, .bin .eql (.t 111) (.c (.int .i64 8)), some (110, true), []⟩,
  ⟨some 113, .pick (.t 110) (.t 112) (.c (.bool false)), none, []⟩,
  ⟨some 114, .mov (.t 113), none, []⟩,
  ⟨some 115, .mov (.t 11), some (114, true), []⟩,
  ⟨some 116, .bin .eql (.t 115) (.c (.int .i64 4)), some (114, true), []⟩,
  ⟨some 117, .pick (.t 114) (.t 116) (.c (.bool false)), none, []⟩,
  ⟨some 118, .mov (.t 117), none, []⟩,
  ⟨some 119, .mov (.t 14), some (118, true), []⟩,
  ⟨some 120, .bin .eql (.t 119) (.c (.int .i64 0)), some (118, true), []⟩,
  ⟨some 121, .pick (.t 118) (.t 120) (.c (.bool false)), none, []⟩,
  ⟨some 122, .mov (.t 121), none, []⟩,
  ⟨some 123, .mov (.t 13), some (122, true), []⟩,
  ⟨some 124, .bslice 1 [.int .i64 0] 1 [(0, .c (.int .i64 1))], some (122, true), []⟩,
  ⟨some 125, .call (.fn 10) [.t 123, .t 124], some (122, true), []⟩,
  ⟨some 126, .pick (.t 122) (.t 125) (.c (.bool false)), none, []⟩,
  ⟨some 127, .mov (.t 126), none, []⟩,
  ⟨some 128, .mov (.t 16), some (127, true), []⟩,
  ⟨some 129, .bin .eql (.t 128) (.c (.int .i64 0)), some (127, true), []⟩,
  ⟨some 130, .pick (.t 127) (.t 129) (.c (.bool false)), none, []⟩,
  ⟨some 131, .mov (.t 130), none, []⟩,
  ⟨some 132, .mov (.t 15), some (131, true), []⟩,
  ⟨some 133, .bslice 1 [.int .i64 0] 1 [(0, .c (.int .i64 1))], some (131, true), []⟩,
  ⟨some 134, .call (.fn 10) [.t 132, .t 133], some (131, true), []⟩,
  ⟨some 135, .pick (.t 131) (.t 134) (.c (.bool false)), none, []⟩,
  ⟨some 136, .mov (.t 135), none, []⟩,
  ⟨some 137, .mov (.t 18), some (136, true), []⟩,
  ⟨some 138, .bin .eql (.t 137) (.c (.int .i64 8)), some (136, true), []⟩,
  ⟨some 139, .pick (.t 136) (.t 138) (.c (.bool false)), none, []⟩,
  ⟨some 140, .mov (.t 139), none, []⟩,
  ⟨some 141, .mov (.t 20), some (140, true), []⟩,
  ⟨some 142, .bin .eql (.t 141) (.c (.int .i64 8)), some (140, true), []⟩,
  ⟨some 143, .pick (.t 140) (.t 142) (.c (.bool false)), none, []⟩,
  ⟨some 0, .mov (.t 143), none, []⟩] [2, 3, 4, 5, 8, 11, 13, 14, 15, 16, 18, 20, 95, 96, 97, 98, 99, 100, 101, 102, 103, 104, 105, 106, 107, 108, 109, 110, 111, 112, 113, 114, 115, 116, 117, 118, 119, 120, 121, 122, 123, 124, 125, 126, 127, 128, 129, 130, 131, 132, 133, 134, 135, 136, 137, 138, 139, 140, 141, 142, 143]
def F_suffragelaw44_PlainNames : AFunc := { ntmps := 144, nargs := 0, kills := [[0], [21], [22, 23, 24, 25, 26, 27, 28, 29, 30, 31, 32, 33, 34, 35, 36, 37, 38, 39, 40], [41], [6, 7, 42, 43, 44, 45, 46, 47], [9, 10, 48, 49, 50, 51, 52, 53, 54], [], [55, 56, 57, 58, 59, 60, 61, 62, 63, 64, 65, 66, 67, 68], [12, 69, 70, 71, 72, 73, 74, 75, 76, 77, 78, 79, 80], [1, 17, 81, 82, 83, 84, 85, 86, 87, 88, 89], [19, 90, 91, 92, 93, 94], [2, 3, 4, 5, 8, 11, 13, 14, 15, 16, 18, 20, 95, 96, 97, 98, 99, 100, 101, 102, 103, 104, 105, 106, 107, 108, 109, 110, 111, 112, 113, 114, 115, 116, 117, 118, 119, 120, 121, 122, 123, 124, 125, 126, 127, 128, 129, 130, 131, 132, 133, 134, 135, 136, 137, 138, 139, 140, 141, 142, 143]], results := [.t 0], body := (.seq R_suffragelaw44_PlainNames_0 (.seq R_suffragelaw44_PlainNames_1 (.seq R_suffragelaw44_PlainNames_2 (.seq R_suffragelaw44_PlainNames_3 (.seq R_suffragelaw44_PlainNames_4 (.seq R_suffragelaw44_PlainNames_5 (.seq R_suffragelaw44_PlainNames_6 (.seq R_suffragelaw44_PlainNames_7 (.seq R_suffragelaw44_PlainNames_8 (.seq R_suffragelaw44_PlainNames_9 (.seq R_suffragelaw44_PlainNames_10 (.seq R_suffragelaw44_PlainNames_11 .ret)))))))))))) }
noncomputable def T3 : { F : AFunc // CT.func [[0], [21], [22, 23, 24, 25, 26, 27, 28, 29, 30, 31, 32, 33, 34, 35, 36, 37, 38, 39, 40], [41], [6, 7, 42, 43, 44, 45, 46, 47], [9, 10, 48, 49, 50, 51, 52, 53, 54], [], [55, 56, 57, 58, 59, 60, 61, 62, 63, 64, 65, 66, 67, 68], [12, 69, 70, 71, 72, 73, 74, 75, 76, 77, 78, 79, 80], [1, 17, 81, 82, 83, 84, 85, 86, 87, 88, 89], [19, 90, 91, 92, 93, 94], [2, 3, 4, 5, 8, 11, 13, 14, 15, 16, 18, 20, 95, 96, 97, 98, 99, 100, 101, 102, 103, 104, 105, 106, 107, 108, 109, 110, 111, 112, 113, 114, 115, 116, 117, 118, 119, 120, 121, 122, 123, 124, 125, 126, 127, 128, 129, 130, 131, 132, 133, 134, 135, 136, 137, 138, 139, 140, 141, 142, 143]] Tryz.f3 = some F } := ⟨F_suffragelaw44_PlainNames, by kernel_rfl⟩
theorem c3 : Cert 3 T3.1 := cert_of T3.2 Tryz.func3
-- suffrage/suffragelaw44.terms
noncomputable def T4 : { F : AFunc // CT.func [[], [2, 3, 4, 5, 6], [1, 7, 8, 9, 10, 11, 12, 13]] Tryz.f4 = some F } := by
  refine ⟨?F, ?h⟩
  case h =>
    conv => lhs; cbv
theorem c4 : Cert 4 T4.1 := cert_of T4.2 Tryz.func4
-- suffrage/plain.Play
def R_plain_Play_0 : AC := .ops false [⟨some 2, .box (.t 0), none, []⟩,
  ⟨some 4, .mov (.c (.lst 0 [] (some 0))), none, []⟩,
  ⟨some 5, .mov (.c (.lst 0 [] (some 0))), none, []⟩,
  ⟨some 6, .mov (.c (.int .i64 0)), none, []⟩] [0, 5, 6]
def R_plain_Play_1 : AC := .ops false [⟨some 13, .load 14 false (.t 2), none, []⟩,
  ⟨some 14, .call (.fn 13) [.t 13], none, []⟩,
  ⟨some 12, .mov (.t 14), none, []⟩,
  ⟨some 15, .ext (.t 12) 0, none, []⟩,
  ⟨some 16, .ext (.t 12) 1, none, []⟩,
  ⟨some 7, .alloc [.str [], .lst 0 [] (some 0), .int .i64 0, .int .u8 0, .int .u8 0, .int .u8 0, .int .i64 0, .bool false, .lst 0 [] (some 0), .lst 0 [] (some 0), .bool false, .lst 0 [] (some 0), .lst 0 [] (some 0), .lst 0 [] (some 0), .int .u8 0, .lst 0 [] (some 0), .lst 0 [] (some 0), .int .u8 0, .int .u8 0, .int .u8 0, .int .u8 0, .int .u8 0, .int .u8 0, .int .u8 0, .int .u8 0, .int .u8 0, .int .u8 0, .int .u8 0, .int .u8 0, .int .u8 0, .int .u8 0, .int .u8 0, .int .u8 0, .int .u8 0, .int .u8 0, .int .u8 0, .int .u8 0, .int .u8 0, .int .u8 0, .int .u8 0, .int .u8 0, .int .u8 0, .int .u8 0, .int .u8 0, .int .u8 0, .int .u8 0, .int .u8 0, .int .u8 0, .int .u8 0, .lst 0 [] (some 0), .lst 0 [] (some 0), .lst 0 [] (some 0), .lst 0 [] (some 0), .lst 0 [] (some 0)], none, []⟩,
  ⟨none, .store 54 (.t 7) (.t 15), none, []⟩,
  ⟨some 8, .mov (.t 16), none, []⟩] [7, 12, 13, 14, 15, 16]
def R_plain_Play_2 : AC := .ops false [⟨some 17, .mov (.t 8), none, []⟩,
  ⟨some 18, .bin .neq (.t 17) (.c (.int .i64 0)), none, []⟩] [17]
def R_plain_Play_3 : AC := .ops false [⟨some 19, .mov (.t 8), none, []⟩,
  ⟨some 4, .mov (.c (.lst 0 [] (some 0))), none, []⟩,
  ⟨some 5, .mov (.c (.lst 0 [] (some 0))), none, []⟩,
  ⟨some 6, .mov (.t 19), none, []⟩] [1, 2, 8, 18, 19]
def R_plain_Play_4 : AC := .ops false [⟨some 20, .mov (.t 1), none, []⟩,
  ⟨some 21, .len (.t 20), none, []⟩,
  ⟨some 22, .bin .gtr (.t 21) (.c (.int .i64 512)), none, []⟩] [8, 18, 20, 21]
def R_plain_Play_5 : AC := .ops false [⟨some 4, .mov (.c (.lst 0 [] (some 0))), none, []⟩,
  ⟨some 5, .mov (.c (.lst 0 [] (some 0))), none, []⟩,
  ⟨some 6, .mov (.c (.int .i64 4)), none, []⟩] [1, 2, 22]
def R_plain_Play_6 : AC := .ops false [⟨some 23, .load 14 false (.t 2), none, []⟩,
  ⟨some 24, .mkmap none, none, []⟩,
  ⟨some 25, .mkmap none, none, []⟩,
  ⟨some 26, .mkmap none, none, []⟩,
  ⟨some 27, .mkmap none, none, []⟩,
  ⟨some 28, .build [.str [], .lst 0 [] (some 0), .int .i64 0, .int .u8 0, .int .u8 0, .int .u8 0, .int .i64 0, .bool false, .lst 0 [] (some 0), .lst 0 [] (some 0), .bool false, .lst 0 [] (some 0), .lst 0 [] (some 0), .lst 0 [] (some 0), .int .i64 0, .nilm, .nilm, .nilm, .nilm, .lst 0 [] (some 0)] [(0, 14, .t 23), (15, 1, .t 24), (16, 1, .t 25), (17, 1, .t 26), (18, 1, .t 27)], none, []⟩,
  ⟨some 29, .box (.t 28), none, []⟩,
  ⟨some 9, .mov (.t 29), none, []⟩] [2, 22, 23, 24, 25, 26, 27, 28, 29]
def R_plain_Play_7 : AC := .ops false [⟨some 30, .mov (.t 1), none, []⟩,
  ⟨some 31, .len (.t 30), none, []⟩,
  ⟨some 32, .mov (.c (.int .i64 0)), none, []⟩] [1]
def R_plain_Play_8 : AC := .ops false [⟨some 33, .bin .lss (.t 32) (.t 31), none, []⟩] []
def R_plain_Play_9 : AC := .ops false [⟨some 34, .ia 8 (.t 30) (.t 32), none, []⟩,
  ⟨some 35, .load 8 false (.t 34), none, []⟩,
  ⟨some 11, .alloc [.int .u8 0, .str [], .int .i64 0, .str [], .lst 0 [] (some 0), .lst 0 [] (some 0), .lst 0 [] (some 0), .lst 0 [] (some 0)], none, []⟩,
  ⟨none, .store 8 (.t 11) (.t 35), none, []⟩] [33, 34, 35]
def R_plain_Play_10 : AC := .ops false [⟨some 36, .mov (.t 4), none, []⟩,
  ⟨some 37, .mov (.t 9), none, []⟩,
  ⟨some 38, .load 8 false (.t 11), none, []⟩,
  ⟨some 39, .call (.fn 14) [.t 37, .t 38], none, []⟩,
  ⟨some 40, .bslice 1 [.bool false] 1 [(0, .t 39)], none, []⟩,
  ⟨some 41, .append 1 1 (.t 36) (.t 40), none, []⟩,
  ⟨some 4, .mov (.t 41), none, []⟩] [11, 36, 37, 38, 39, 40, 41]
def R_plain_Play_11 : AC := .ops false [⟨some 42, .bin .add (.t 32) (.c (.int .i64 1)), none, []⟩,
  ⟨some 32, .mov (.t 42), none, []⟩] [42]
def L_plain_Play_1 : AC := (.seq R_plain_Play_8 (.seq (.cond (.t 33) .skip (.exit 0)) (.seq (.block 1 (.seq R_plain_Play_9 R_plain_Play_10)) R_plain_Play_11)))
def R_plain_Play_12 : AC := .ops true [⟨some 43, .mov (.t 4), none, []⟩,
  ⟨some 44, .mov (.t 9), none, []⟩,
  ⟨some 45, .nilchk (.t 44), none, [1]⟩,
  ⟨some 46, .fa (.t 45) 19, none, [2]⟩,
  ⟨some 47, .load 1 true (.t 46), none, [3]⟩,
  ⟨some 4, .mov (.t 43), none, [0, 0]⟩,
  ⟨some 5, .mov (.t 47), none, [4, 5, 0, 1, 2, 3, 4, 5]⟩,
  ⟨some 6, .mov (.c (.int .i64 0)), none, [6, 0, 1, 2, 3, 4, 5, 6]⟩] [9, 30, 31, 32, 33, 43, 44, 45, 46, 47]
def F_plain_Play : AFunc := { ntmps := 48, nargs := 2, kills := [[0, 5, 6], [7, 12, 13, 14, 15, 16], [17], [1, 2, 8, 18, 19], [8, 18, 20, 21], [1, 2, 22], [2, 22, 23, 24, 25, 26, 27, 28, 29], [1], [], [33, 34, 35], [11, 36, 37, 38, 39, 40, 41], [42], [9, 30, 31, 32, 33, 43, 44, 45, 46, 47]], results := [.t 4, .t 5, .t 6], body := (.seq R_plain_Play_0 (.seq (.seq R_plain_Play_1 (.seq R_plain_Play_2 (.cond (.t 18) (.seq R_plain_Play_3 .ret) .skip))) (.seq (.seq R_plain_Play_4 (.cond (.t 22) (.seq R_plain_Play_5 .ret) .skip)) (.seq R_plain_Play_6 (.seq (.seq R_plain_Play_7 (.block 0 (.loop L_plain_Play_1))) (.seq R_plain_Play_12 .ret)))))) }
noncomputable def T5 : { F : AFunc // CT.func [[0, 5, 6], [7, 12, 13, 14, 15, 16], [17], [1, 2, 8, 18, 19], [8, 18, 20, 21], [1, 2, 22], [2, 22, 23, 24, 25, 26, 27, 28, 29], [1], [], [33, 34, 35], [11, 36, 37, 38, 39, 40, 41], [42], [9, 30, 31, 32, 33, 43, 44, 45, 46, 47]] Tryz.f5 = some F } := ⟨F_plain_Play, by kernel_rfl⟩
theorem c5 : Cert 5 T5.1 := cert_of T5.2 Tryz.func5
-- suffrage/suffragelaw44.PlainNames$1
noncomputable def T6 : { F : AFunc // CT.func [[], [0, 3, 4, 5]] Tryz.f6 = some F } := by
  refine ⟨?F, ?h⟩
  case h =>
    conv => lhs; cbv
theorem c6 : Cert 6 T6.1 := cert_of T6.2 Tryz.func6
-- suffrage/plain.Winners
def R_plain_Winners_0 : AC := .ops false [⟨some 3, .box (.t 0), none, []⟩,
  ⟨some 6, .mov (.c (.lst 0 [] (some 0))), none, []⟩,
  ⟨some 7, .mov (.c (.int .i64 0)), none, []⟩] [0, 6, 7]
def R_plain_Winners_1 : AC := .ops false [⟨some 14, .load 4 false (.t 3), none, []⟩,
  ⟨some 15, .call (.fn 15) [.t 14], none, []⟩,
  ⟨some 8, .mov (.t 15), none, []⟩] [14, 15]
def R_plain_Winners_2 : AC := .ops false [⟨some 16, .mov (.t 8), none, []⟩,
  ⟨some 17, .bin .neq (.t 16) (.c (.int .i64 0)), none, []⟩] [16]
def R_plain_Winners_3 : AC := .ops false [⟨some 18, .mov (.t 8), none, []⟩,
  ⟨some 6, .mov (.c (.lst 0 [] (some 0))), none, []⟩,
  ⟨some 7, .mov (.t 18), none, []⟩] [1, 2, 3, 8, 17, 18]
def R_plain_Winners_4 : AC := .ops false [⟨some 20, .fa (.t 3) 3, none, []⟩,
  ⟨some 21, .load 1 true (.t 20), none, []⟩,
  ⟨some 22, .call (.fn 16) [.t 21], none, []⟩,
  ⟨some 19, .mov (.t 22), none, []⟩,
  ⟨some 23, .ext (.t 19) 0, none, []⟩,
  ⟨some 24, .ext (.t 19) 1, none, []⟩,
  ⟨some 9, .mov (.t 23), none, []⟩,
  ⟨some 10, .mov (.t 24), none, []⟩] [8, 10, 17, 19, 20, 21, 22, 23, 24]
def R_plain_Winners_5 : AC := .ops false [⟨some 26, .fa (.t 3) 1, none, []⟩,
  ⟨some 27, .load 1 true (.t 26), none, []⟩,
  ⟨some 28, .len (.t 27), none, []⟩,
  ⟨some 29, .mov (.t 9), none, []⟩,
  ⟨some 30, .mov (.t 1), none, []⟩,
  ⟨some 31, .call (.fn 17) [.t 28, .t 29, .t 30], none, []⟩,
  ⟨some 25, .mov (.t 31), none, []⟩,
  ⟨some 32, .ext (.t 25) 0, none, []⟩,
  ⟨some 33, .ext (.t 25) 1, none, []⟩,
  ⟨some 11, .alloc [.int .i64 0, .int .u8 0, .lst 0 [] (some 0)], none, []⟩,
  ⟨none, .store 3 (.t 11) (.t 32), none, []⟩,
  ⟨some 12, .mov (.t 33), none, []⟩] [1, 9, 25, 26, 27, 28, 29, 30, 31, 32, 33]
def R_plain_Winners_6 : AC := .ops false [⟨some 34, .mov (.t 12), none, []⟩,
  ⟨some 35, .bin .neq (.t 34) (.c (.int .i64 0)), none, []⟩] [34]
def R_plain_Winners_7 : AC := .ops false [⟨some 36, .mov (.t 12), none, []⟩,
  ⟨some 6, .mov (.c (.lst 0 [] (some 0))), none, []⟩,
  ⟨some 7, .mov (.t 36), none, []⟩] [2, 3, 11, 12, 35, 36]
def R_plain_Winners_8 : AC := .ops false [⟨some 38, .load 4 false (.t 3), none, []⟩,
  ⟨some 39, .load 3 false (.t 11), none, []⟩,
  ⟨some 40, .mov (.t 2), none, []⟩,
  ⟨some 41, .call (.fn 18) [.t 38, .t 39, .t 40], none, []⟩,
  ⟨some 37, .mov (.t 41), none, []⟩,
  ⟨some 42, .ext (.t 37) 0, none, []⟩,
  ⟨some 43, .ext (.t 37) 1, none, []⟩,
  ⟨some 13, .alloc [.lst 0 [] (some 0), .lst 0 [] (some 0), .lst 0 [] (some 0)], none, []⟩,
  ⟨none, .store 3 (.t 13) (.t 42), none, []⟩,
  ⟨some 12, .mov (.t 43), none, []⟩] [2, 3, 11, 35, 37, 38, 39, 40, 41, 42, 43]
def R_plain_Winners_9 : AC := .ops false [⟨some 44, .mov (.t 12), none, []⟩,
  ⟨some 45, .bin .neq (.t 44) (.c (.int .i64 0)), none, []⟩] [44]
def R_plain_Winners_10 : AC := .ops false [⟨some 46, .mov (.t 12), none, []⟩,
  ⟨some 6, .mov (.c (.lst 0 [] (some 0))), none, []⟩,
  ⟨some 7, .mov (.t 46), none, []⟩] [12, 13, 45, 46]
def R_plain_Winners_11 : AC := .ops false [⟨some 47, .fa (.t 13) 0, none, []⟩,
  ⟨some 48, .load 1 true (.t 47), none, []⟩,
  ⟨some 49, .call (.fn 19) [.t 48], none, []⟩,
  ⟨some 6, .mov (.t 49), none, []⟩,
  ⟨some 7, .mov (.c (.int .i64 0)), none, []⟩] [12, 13, 45, 47, 48, 49]
def F_plain_Winners : AFunc := { ntmps := 50, nargs := 3, kills := [[0, 6, 7], [14, 15], [16], [1, 2, 3, 8, 17, 18], [8, 10, 17, 19, 20, 21, 22, 23, 24], [1, 9, 25, 26, 27, 28, 29, 30, 31, 32, 33], [34], [2, 3, 11, 12, 35, 36], [2, 3, 11, 35, 37, 38, 39, 40, 41, 42, 43], [44], [12, 13, 45, 46], [12, 13, 45, 47, 48, 49]], results := [.t 6, .t 7], body := (.seq R_plain_Winners_0 (.seq (.seq R_plain_Winners_1 (.seq R_plain_Winners_2 (.cond (.t 17) (.seq R_plain_Winners_3 .ret) .skip))) (.seq R_plain_Winners_4 (.seq R_plain_Winners_5 (.seq (.seq R_plain_Winners_6 (.cond (.t 35) (.seq R_plain_Winners_7 .ret) .skip)) (.seq R_plain_Winners_8 (.seq (.seq R_plain_Winners_9 (.cond (.t 45) (.seq R_plain_Winners_10 .ret) .skip)) (.seq R_plain_Winners_11 .ret)))))))) }
noncomputable def T7 : { F : AFunc // CT.func [[0, 6, 7], [14, 15], [16], [1, 2, 3, 8, 17, 18], [8, 10, 17, 19, 20, 21, 22, 23, 24], [1, 9, 25, 26, 27, 28, 29, 30, 31, 32, 33], [34], [2, 3, 11, 12, 35, 36], [2, 3, 11, 35, 37, 38, 39, 40, 41, 42, 43], [44], [12, 13, 45, 46], [12, 13, 45, 47, 48, 49]] Tryz.f7 = some F } := ⟨F_plain_Winners, by kernel_rfl⟩
theorem c7 : Cert 7 T7.1 := cert_of T7.2 Tryz.func7
-- suffrage/suffragelaw44.alive
noncomputable def T8 : { F : AFunc // CT.func [[0], [4, 5, 6, 7, 8, 9, 10], [1, 2, 3, 11, 12, 13, 14, 15, 16, 17, 18, 19, 20, 21, 22, 23, 24, 25, 26, 27, 28, 29, 30]] Tryz.f8 = some F } := by
  refine ⟨?F, ?h⟩
  case h =>
    conv => lhs; cbv
theorem c8 : Cert 8 T8.1 := cert_of T8.2 Tryz.func8
-- suffrage/suffrageref44.SameBools
noncomputable def T9 : { F : AFunc // CT.func [[4], [6, 7, 8, 9], [0, 1, 10], [10], [11, 12, 13], [15, 16, 25], [14, 17, 18, 19, 20, 21, 22, 23, 24], [0, 1, 5, 25], [0, 1, 5, 14]] Tryz.f9 = some F } := by
  refine ⟨?F, ?h⟩
  case h =>
    conv => lhs; cbv
theorem c9 : Cert 9 T9.1 := cert_of T9.2 Tryz.func9
-- suffrage/suffrageref08.Ints
noncomputable def T10 : { F : AFunc // CT.func [[4], [6, 7, 8, 9], [0, 1, 10], [10], [11, 12, 13], [15, 16, 25], [14, 17, 18, 19, 20, 21, 22, 23, 24], [0, 1, 5, 25], [0, 1, 5, 14]] Tryz.f10 = some F } := by
  refine ⟨?F, ?h⟩
  case h =>
    conv => lhs; cbv
theorem c10 : Cert 10 T10.1 := cert_of T10.2 Tryz.func10
-- suffrage/ratio.Of
noncomputable def T11 : { F : AFunc // CT.func [[5], [6], [0, 1, 7, 8], [0, 1, 7, 9, 10, 11, 12, 13, 14, 15, 16, 17, 18, 19, 20]] Tryz.f11 = some F } := by
  refine ⟨?F, ?h⟩
  case h =>
    conv => lhs; cbv
theorem c11 : Cert 11 T11.1 := cert_of T11.2 Tryz.func11
-- suffrage/ratio.Whole
noncomputable def T12 : { F : AFunc // CT.func [[], [0, 3, 4, 5, 6, 7, 8, 9]] Tryz.f12 = some F } := by
  refine ⟨?F, ?h⟩
  case h =>
    conv => lhs; cbv
theorem c12 : Cert 12 T12.1 := cert_of T12.2 Tryz.func12
-- suffrage/election.Begin
noncomputable def T13 : { F : AFunc // CT.func [[0, 3], [4, 5], [1, 6, 7], [1, 6, 8, 9, 10]] Tryz.f13 = some F } := by
  refine ⟨?F, ?h⟩
  case h =>
    conv => lhs; cbv
theorem c13 : Cert 13 T13.1 := cert_of T13.2 Tryz.func13
-- (*suffrage/plain.model).accept
def R_plain_model_accept_0 : AC := .ops false [⟨some 2, .box (.t 0), none, []⟩,
  ⟨some 3, .box (.t 1), none, []⟩,
  ⟨some 4, .mov (.c (.bool false)), none, []⟩] [0, 1, 4]
def R_plain_model_accept_1 : AC := .ops false [⟨some 5, .mov (.f 27), none, []⟩] []
def R_plain_model_accept_2 : AC := .ops false [⟨some 7, .mkfn 28 [] [.t 2], none, []⟩,
  ⟨some 6, .mov (.t 7), none, []⟩] [7]
def R_plain_model_accept_3 : AC := .ops false [⟨some 8, .fa (.t 3) 0, none, []⟩,
  ⟨some 9, .load 1 true (.t 8), none, []⟩] [8]
def R_plain_model_accept_4 : AC := .ops false [⟨some 11, .bin .eql (.t 9) (.c (.int .u8 1)), none, []⟩,
  ⟨some 10, .mov (.t 11), none, []⟩] [11]
def R_plain_model_accept_5 : AC := .ops false [⟨some 12, .load 1 true (.t 2), none, []⟩,
  ⟨some 13, .load 8 false (.t 3), none, []⟩,
  ⟨some 14, .call (.fn 29) [.t 12, .t 13], none, []⟩,
  ⟨some 4, .mov (.t 14), none, []⟩] [2, 3, 5, 6, 9, 10, 12, 13, 14]
def R_plain_model_accept_6 : AC := .ops false [⟨some 16, .bin .eql (.t 9) (.c (.int .u8 2)), none, []⟩,
  ⟨some 15, .mov (.t 16), none, []⟩] [10, 16]
def R_plain_model_accept_7 : AC := .ops false [⟨some 17, .load 1 true (.t 2), none, []⟩,
  ⟨some 18, .mov (.t 5), none, []⟩,
  ⟨some 19, .call (.fn 30) [.t 17, .c (.int .i64 0), .t 18], none, []⟩,
  ⟨some 4, .mov (.t 19), none, []⟩] [2, 3, 5, 6, 9, 15, 17, 18, 19]
def R_plain_model_accept_8 : AC := .ops false [⟨some 21, .bin .eql (.t 9) (.c (.int .u8 3)), none, []⟩,
  ⟨some 20, .mov (.t 21), none, []⟩] [5, 15, 21]
def R_plain_model_accept_9 : AC := .ops true [⟨some 22, .load 1 true (.t 2), none, []⟩,
  ⟨some 23, .fa (.t 3) 1, none, []⟩,
  ⟨some 24, .load 1 true (.t 23), none, [1]⟩,
  ⟨some 25, .load 1 true (.t 2), none, []⟩,
  ⟨some 26, .nilchk (.t 25), none, [3]⟩,
  ⟨some 27, .fa (.t 26) 16, none, [4]⟩,
  ⟨some 28, .load 1 true (.t 27), none, [5]⟩,
  ⟨some 29, .load 1 true (.t 2), none, []⟩,
  ⟨some 30, .nilchk (.t 29), none, [7]⟩,
  ⟨some 31, .fa (.t 30) 17, none, [8]⟩,
  ⟨some 32, .load 1 true (.t 31), none, [9]⟩,
  ⟨some 33, .call (.fn 31) [.t 22, .t 24, .t 28, .t 32], none, [0, 2, 6, 10]⟩,
  ⟨some 4, .mov (.t 33), none, [11, 11, 0, 1, 2, 3, 4, 5, 6, 7, 8, 9, 10, 11]⟩] [2, 3, 6, 9, 20, 22, 23, 24, 25, 26, 27, 28, 29, 30, 31, 32, 33]
def R_plain_model_accept_10 : AC := .ops false [⟨some 35, .bin .eql (.t 9) (.c (.int .u8 4)), none, []⟩,
  ⟨some 34, .mov (.t 35), none, []⟩] [20, 35]
def R_plain_model_accept_11 : AC := .ops true [⟨some 36, .load 1 true (.t 2), none, []⟩,
  ⟨some 37, .fa (.t 3) 1, none, []⟩,
  ⟨some 38, .load 1 true (.t 37), none, [1]⟩,
  ⟨some 39, .load 1 true (.t 2), none, []⟩,
  ⟨some 40, .nilchk (.t 39), none, [3]⟩,
  ⟨some 41, .fa (.t 40) 17, none, [4]⟩,
  ⟨some 42, .load 1 true (.t 41), none, [5]⟩,
  ⟨some 43, .load 1 true (.t 2), none, []⟩,
  ⟨some 44, .nilchk (.t 43), none, [7]⟩,
  ⟨some 45, .fa (.t 44) 16, none, [8]⟩,
  ⟨some 46, .load 1 true (.t 45), none, [9]⟩,
  ⟨some 47, .call (.fn 31) [.t 36, .t 38, .t 42, .t 46], none, [0, 2, 6, 10]⟩,
  ⟨some 4, .mov (.t 47), none, [11, 11, 0, 1, 2, 3, 4, 5, 6, 7, 8, 9, 10, 11]⟩] [2, 3, 6, 9, 34, 36, 37, 38, 39, 40, 41, 42, 43, 44, 45, 46, 47]
def R_plain_model_accept_12 : AC := .ops false [⟨some 49, .bin .eql (.t 9) (.c (.int .u8 5)), none, []⟩,
  ⟨some 48, .mov (.t 49), none, []⟩] [34, 49]
def R_plain_model_accept_13 : AC := .ops false [⟨some 50, .load 1 true (.t 2), none, []⟩,
  ⟨some 51, .load 8 false (.t 3), none, []⟩,
  ⟨some 52, .call (.fn 32) [.t 50, .t 51], none, []⟩,
  ⟨some 4, .mov (.t 52), none, []⟩] [2, 3, 6, 9, 48, 50, 51, 52]
def R_plain_model_accept_14 : AC := .ops false [⟨some 54, .bin .eql (.t 9) (.c (.int .u8 6)), none, []⟩,
  ⟨some 53, .mov (.t 54), none, []⟩] [3, 9, 48, 54]
def R_plain_model_accept_15 : AC := .ops false [⟨some 55, .load 1 true (.t 2), none, []⟩,
  ⟨some 56, .mov (.t 6), none, []⟩,
  ⟨some 57, .call (.fn 30) [.t 55, .c (.int .i64 1), .t 56], none, []⟩,
  ⟨some 4, .mov (.t 57), none, []⟩] [2, 6, 53, 55, 56, 57]
def R_plain_model_accept_16 : AC := .ops false [⟨some 4, .mov (.c (.bool false)), none, []⟩] [2, 6, 53]
def F_plain_model_accept : AFunc := { ntmps := 58, nargs := 2, kills := [[0, 1, 4], [], [7], [8], [11], [2, 3, 5, 6, 9, 10, 12, 13, 14], [10, 16], [2, 3, 5, 6, 9, 15, 17, 18, 19], [5, 15, 21], [2, 3, 6, 9, 20, 22, 23, 24, 25, 26, 27, 28, 29, 30, 31, 32, 33], [20, 35], [2, 3, 6, 9, 34, 36, 37, 38, 39, 40, 41, 42, 43, 44, 45, 46, 47], [34, 49], [2, 3, 6, 9, 48, 50, 51, 52], [3, 9, 48, 54], [2, 6, 53, 55, 56, 57], [2, 6, 53]], results := [.t 4], body := (.seq R_plain_model_accept_0 (.seq R_plain_model_accept_1 (.seq R_plain_model_accept_2 (.seq (.seq R_plain_model_accept_3 (.block 0 (.seq R_plain_model_accept_4 (.cond (.t 10) (.seq R_plain_model_accept_5 .ret) (.seq R_plain_model_accept_6 (.cond (.t 15) (.seq R_plain_model_accept_7 .ret) (.seq R_plain_model_accept_8 (.cond (.t 20) (.seq R_plain_model_accept_9 .ret) (.seq R_plain_model_accept_10 (.cond (.t 34) (.seq R_plain_model_accept_11 .ret) (.seq R_plain_model_accept_12 (.cond (.t 48) (.seq R_plain_model_accept_13 .ret) (.seq R_plain_model_accept_14 (.cond (.t 53) (.seq R_plain_model_accept_15 .ret) .skip)))))))))))))) (.seq R_plain_model_accept_16 .ret))))) }
noncomputable def T14 : { F : AFunc // CT.func [[0, 1, 4], [], [7], [8], [11], [2, 3, 5, 6, 9, 10, 12, 13, 14], [10, 16], [2, 3, 5, 6, 9, 15, 17, 18, 19], [5, 15, 21], [2, 3, 6, 9, 20, 22, 23, 24, 25, 26, 27, 28, 29, 30, 31, 32, 33], [20, 35], [2, 3, 6, 9, 34, 36, 37, 38, 39, 40, 41, 42, 43, 44, 45, 46, 47], [34, 49], [2, 3, 6, 9, 48, 50, 51, 52], [3, 9, 48, 54], [2, 6, 53, 55, 56, 57], [2, 6, 53]] Tryz.f14 = some F } := ⟨F_plain_model_accept, by kernel_rfl⟩
theorem c14 : Cert 14 T14.1 := cert_of T14.2 Tryz.func14
-- suffrage/contest.Check
noncomputable def T15 : { F : AFunc // CT.func [[0, 2], [3, 4, 5], [1, 6], [1, 6, 7, 8, 9, 10, 11, 12, 13, 14, 15, 16, 17, 18, 19, 20, 21, 22, 23, 24, 25, 26, 27, 28, 29, 30], [31], [31]] Tryz.f15 = some F } := by
  refine ⟨?F, ?h⟩
  case h =>
    conv => lhs; cbv
theorem c15 : Cert 15 T15.1 := cert_of T15.2 Tryz.func15
-- suffrage/contest.Kind
noncomputable def T16 : { F : AFunc // CT.func [[2, 3], [4, 5, 6], [0, 7], [0, 7, 8, 9, 10]] Tryz.f16 = some F } := by
  refine ⟨?F, ?h⟩
  case h =>
    conv => lhs; cbv
theorem c16 : Cert 16 T16.1 := cert_of T16.2 Tryz.func16
-- suffrage/profile.Make
noncomputable def T17 : { F : AFunc // CT.func [[7], [0, 1, 12, 13, 14, 15, 16, 17], [2], [], [21, 22, 23], [24], [11, 25, 26, 27, 28, 29, 30, 31], [32], [8, 9, 11, 18, 19, 20, 21, 25, 33, 34]] Tryz.f17 = some F } := by
  refine ⟨?F, ?h⟩
  case h =>
    conv => lhs; cbv
theorem c17 : Cert 17 T17.1 := cert_of T17.2 Tryz.func17
-- suffrage/count.Run
def R_count_Run_0 : AC := .ops false [⟨some 3, .box (.t 0), none, []⟩,
  ⟨some 4, .box (.t 1), none, []⟩,
  ⟨some 6, .alloc [.lst 0 [] (some 0), .lst 0 [] (some 0), .lst 0 [] (some 0)], none, []⟩,
  ⟨some 7, .mov (.c (.int .i64 0)), none, []⟩] [0, 1, 7]
def R_count_Run_1 : AC := .ops false [⟨some 12, .load 4 false (.t 3), none, []⟩,
  ⟨some 13, .call (.fn 15) [.t 12], none, []⟩,
  ⟨some 8, .mov (.t 13), none, []⟩] [12, 13]
def R_count_Run_2 : AC := .ops false [⟨some 14, .mov (.t 8), none, []⟩,
  ⟨some 15, .bin .neq (.t 14) (.c (.int .i64 0)), none, []⟩] [14]
def R_count_Run_3 : AC := .ops false [⟨some 16, .build [.lst 0 [] (some 0), .lst 0 [] (some 0), .lst 0 [] (some 0)] [], none, []⟩,
  ⟨some 17, .mov (.t 8), none, []⟩,
  ⟨none, .store 3 (.t 6) (.t 16), none, []⟩,
  ⟨some 7, .mov (.t 17), none, []⟩] [2, 3, 4, 8, 15, 16, 17]
def R_count_Run_4 : AC := .ops false [⟨some 18, .load 3 false (.t 4), none, []⟩,
  ⟨some 19, .call (.fn 39) [.t 18], none, []⟩,
  ⟨some 9, .mov (.t 19), none, []⟩] [8, 15, 18, 19]
def R_count_Run_5 : AC := .ops false [⟨some 20, .mov (.t 9), none, []⟩,
  ⟨some 21, .bin .neq (.t 20) (.c (.int .i64 0)), none, []⟩] [20]
def R_count_Run_6 : AC := .ops false [⟨some 22, .build [.lst 0 [] (some 0), .lst 0 [] (some 0), .lst 0 [] (some 0)] [], none, []⟩,
  ⟨some 23, .mov (.t 9), none, []⟩,
  ⟨none, .store 3 (.t 6) (.t 22), none, []⟩,
  ⟨some 7, .mov (.t 23), none, []⟩] [2, 3, 4, 9, 21, 22, 23]
def R_count_Run_7 : AC := .ops false [⟨some 25, .fa (.t 3) 3, none, []⟩,
  ⟨some 26, .load 1 true (.t 25), none, []⟩,
  ⟨some 27, .call (.fn 16) [.t 26], none, []⟩,
  ⟨some 24, .mov (.t 27), none, []⟩,
  ⟨some 28, .ext (.t 24) 0, none, []⟩,
  ⟨some 29, .ext (.t 24) 1, none, []⟩,
  ⟨some 10, .mov (.t 28), none, []⟩,
  ⟨some 11, .mov (.t 29), none, []⟩] [9, 11, 21, 24, 25, 26, 27, 28, 29]
def R_count_Run_8 : AC := .ops false [⟨some 30, .mov (.t 10), none, []⟩,
  ⟨some 31, .fa (.t 4) 1, none, []⟩,
  ⟨some 32, .load 1 true (.t 31), none, []⟩,
  ⟨some 33, .bin .neq (.t 30) (.t 32), none, []⟩,
  ⟨some 34, .mov (.t 33), none, []⟩,
  ⟨some 35, .fa (.t 4) 0, some (34, false), []⟩,
  ⟨some 36, .load 1 true (.t 35), some (34, false), []⟩,
  ⟨some 37, .fa (.t 3) 1, some (34, false), []⟩,
  ⟨some 38, .load 1 true (.t 37), some (34, false), []⟩,
  ⟨some 39, .len (.t 38), some (34, false), []⟩,
  ⟨some 40, .bin .neq (.t 36) (.t 39), some (34, false), []⟩,
  ⟨some 41, .pick (.t 34) (.c (.bool true)) (.t 40), none, []⟩] [10, 30, 31, 32, 33, 34, 35, 36, 37, 38, 39, 40]
def R_count_Run_9 : AC := .ops false [⟨some 42, .build [.lst 0 [] (some 0), .lst 0 [] (some 0), .lst 0 [] (some 0)] [], none, []⟩,
  ⟨none, .store 3 (.t 6) (.t 42), none, []⟩,
  ⟨some 7, .mov (.c (.int .i64 270)), none, []⟩] [2, 3, 4, 41, 42]
def R_count_Run_10 : AC := .ops true [⟨some 43, .call (.fn 40) [], none, []⟩,
  ⟨some 44, .fa (.t 3) 3, none, []⟩,
  ⟨some 45, .load 1 true (.t 44), none, [1]⟩,
  ⟨some 46, .mget 0 (.agg [.nilf]) false (.t 43) (.t 45), none, [0, 2]⟩,
  ⟨some 47, .fld (.t 46) 0 1 true, none, [3]⟩,
  ⟨some 48, .load 3 false (.t 4), none, []⟩,
  ⟨some 49, .fa (.t 3) 2, none, []⟩,
  ⟨some 50, .load 1 true (.t 49), none, [6]⟩,
  ⟨some 51, .mov (.t 2), none, []⟩,
  ⟨some 52, .call (.dyn (.t 47)) [.t 48, .t 50, .t 51], none, [4, 5, 7, 8, 0]⟩,
  ⟨some 53, .ext (.t 52) 0, none, [9]⟩,
  ⟨some 54, .ext (.t 52) 1, none, [9]⟩,
  ⟨none, .store 3 (.t 6) (.t 53), none, [10, 9, 0, 1, 2, 3, 4, 5, 6, 7, 8, 9, 10, 11]⟩,
  ⟨some 7, .mov (.t 54), none, [11, 12, 0, 1, 2, 3, 4, 5, 6, 7, 8, 9, 10, 11, 12]⟩] [2, 3, 4, 41, 43, 44, 45, 46, 47, 48, 49, 50, 51, 52, 53, 54]
def F_count_Run : AFunc := { ntmps := 55, nargs := 3, kills := [[0, 1, 7], [12, 13], [14], [2, 3, 4, 8, 15, 16, 17], [8, 15, 18, 19], [20], [2, 3, 4, 9, 21, 22, 23], [9, 11, 21, 24, 25, 26, 27, 28, 29], [10, 30, 31, 32, 33, 34, 35, 36, 37, 38, 39, 40], [2, 3, 4, 41, 42], [2, 3, 4, 41, 43, 44, 45, 46, 47, 48, 49, 50, 51, 52, 53, 54]], results := [.cell 6 3 false, .t 7], body := (.seq R_count_Run_0 (.seq (.seq R_count_Run_1 (.seq R_count_Run_2 (.cond (.t 15) (.seq R_count_Run_3 .ret) .skip))) (.seq (.seq R_count_Run_4 (.seq R_count_Run_5 (.cond (.t 21) (.seq R_count_Run_6 .ret) .skip))) (.seq (.seq R_count_Run_7 (.seq R_count_Run_8 (.cond (.t 41) (.seq R_count_Run_9 .ret) .skip))) (.seq R_count_Run_10 .ret))))) }
noncomputable def T18 : { F : AFunc // CT.func [[0, 1, 7], [12, 13], [14], [2, 3, 4, 8, 15, 16, 17], [8, 15, 18, 19], [20], [2, 3, 4, 9, 21, 22, 23], [9, 11, 21, 24, 25, 26, 27, 28, 29], [10, 30, 31, 32, 33, 34, 35, 36, 37, 38, 39, 40], [2, 3, 4, 41, 42], [2, 3, 4, 41, 43, 44, 45, 46, 47, 48, 49, 50, 51, 52, 53, 54]] Tryz.f18 = some F } := ⟨F_count_Run, by kernel_rfl⟩
theorem c18 : Cert 18 T18.1 := cert_of T18.2 Tryz.func18
end Go.Proofs.YtmkaekblmbjhpaaGreat
