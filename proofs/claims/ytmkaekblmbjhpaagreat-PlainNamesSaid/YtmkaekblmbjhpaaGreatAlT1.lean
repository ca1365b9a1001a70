/- The functions in the abstract language, worked out by Lean. -/
import Derived.Test.YtmkaekblmbjhpaaGreatAlX
set_option linter.unusedVariables false
set_option maxHeartbeats 1000000
set_option maxRecDepth 100000
namespace Go.Proofs.YtmkaekblmbjhpaaGreat
-- slices.Clone[[]int,int]
noncomputable def T19 : { F : AFunc // CT.func [[2], [3], [0, 4], [0, 4, 5, 6, 7]] Tryz.f19 = some F } := by
  refine ⟨?F, ?h⟩
  case h =>
    conv => lhs; cbv
theorem c19 : Cert 19 T19.1 := cert_of T19.2 Tryz.func19
-- suffrage/suffragelaw44.deeds
noncomputable def T20 : { F : AFunc // CT.func [[0], [2, 3], [1, 4, 5, 6, 7, 8, 9, 10, 11, 12]] Tryz.f20 = some F } := by
  refine ⟨?F, ?h⟩
  case h =>
    conv => lhs; cbv
theorem c20 : Cert 20 T20.1 := cert_of T20.2 Tryz.func20
-- suffrage/ratio.lowest
noncomputable def T21 : { F : AFunc // CT.func [[], [8, 9, 10, 11, 12, 13, 14], [15, 16, 17, 18, 19, 20, 21], [7, 22, 23, 24, 25, 26, 27, 28], [0, 1, 2, 29, 30, 31, 32, 33, 34, 35, 36, 37]] Tryz.f21 = some F } := by
  refine ⟨?F, ?h⟩
  case h =>
    conv => lhs; cbv
theorem c21 : Cert 21 T21.1 := cert_of T21.2 Tryz.func21
-- suffrage/nat.Of
noncomputable def T22 : { F : AFunc // CT.func [[2], [0, 3, 4, 5, 6, 7, 8, 9]] Tryz.f22 = some F } := by
  refine ⟨?F, ?h⟩
  case h =>
    conv => lhs; cbv
theorem c22 : Cert 22 T22.1 := cert_of T22.2 Tryz.func22
-- suffrage/ratio.size
noncomputable def T23 : { F : AFunc // CT.func [[2], [3], [0, 4, 5, 6, 7, 8, 9], [0, 4, 10, 11]] Tryz.f23 = some F } := by
  refine ⟨?F, ?h⟩
  case h =>
    conv => lhs; cbv
theorem c23 : Cert 23 T23.1 := cert_of T23.2 Tryz.func23
-- suffrage/ratio.one
noncomputable def T24 : { F : AFunc // CT.func [[0], [1]] Tryz.f24 = some F } := by
  refine ⟨?F, ?h⟩
  case h =>
    conv => lhs; cbv
theorem c24 : Cert 24 T24.1 := cert_of T24.2 Tryz.func24
-- suffrage/election.terms
def R_election_terms_0 : AC := .ops false [⟨some 1, .box (.t 0), none, []⟩,
  ⟨some 2, .mov (.c (.bool false)), none, []⟩] [0, 2]
def R_election_terms_1 : AC := .ops false [⟨some 7, .fa (.t 1) 4, none, []⟩,
  ⟨some 8, .load 3 false (.t 7), none, []⟩,
  ⟨some 3, .alloc [.int .u8 0, .int .u8 0, .int .i64 0], none, []⟩,
  ⟨none, .store 3 (.t 3) (.t 8), none, []⟩] [7, 8]
def R_election_terms_2 : AC := .ops false [⟨some 9, .fa (.t 1) 0, none, []⟩,
  ⟨some 10, .load 4 false (.t 9), none, []⟩,
  ⟨some 11, .call (.fn 15) [.t 10], none, []⟩,
  ⟨some 12, .bin .neq (.t 11) (.c (.int .i64 0)), none, []⟩,
  ⟨some 13, .mov (.t 12), none, []⟩,
  ⟨some 14, .fa (.t 3) 0, some (13, false), []⟩,
  ⟨some 15, .load 1 true (.t 14), some (13, false), []⟩,
  ⟨some 16, .bin .lss (.t 15) (.c (.int .u8 1)), some (13, false), []⟩,
  ⟨some 17, .pick (.t 13) (.c (.bool true)) (.t 16), none, []⟩,
  ⟨some 18, .mov (.t 17), none, []⟩,
  ⟨some 19, .fa (.t 3) 0, some (18, false), []⟩,
  ⟨some 20, .load 1 true (.t 19), some (18, false), []⟩,
  ⟨some 21, .fa (.t 3) 1, some (18, false), []⟩,
  ⟨some 22, .load 1 true (.t 21), some (18, false), []⟩,
  ⟨some 23, .bin .gtr (.t 20) (.t 22), some (18, false), []⟩,
  ⟨some 24, .pick (.t 18) (.c (.bool true)) (.t 23), none, []⟩,
  ⟨some 25, .mov (.t 24), none, []⟩,
  ⟨some 26, .fa (.t 3) 1, some (25, false), []⟩,
  ⟨some 27, .load 1 true (.t 26), some (25, false), []⟩,
  ⟨some 28, .bin .gtr (.t 27) (.c (.int .u8 100)), some (25, false), []⟩,
  ⟨some 29, .pick (.t 25) (.c (.bool true)) (.t 28), none, []⟩,
  ⟨some 30, .mov (.t 29), none, []⟩,
  ⟨some 31, .fa (.t 3) 2, some (30, false), []⟩,
  ⟨some 32, .load 1 true (.t 31), some (30, false), []⟩,
  ⟨some 33, .bin .lss (.t 32) (.c (.int .i64 0)), some (30, false), []⟩,
  ⟨some 34, .pick (.t 30) (.c (.bool true)) (.t 33), none, []⟩,
  ⟨some 35, .mov (.t 34), none, []⟩,
  ⟨some 36, .fa (.t 3) 2, some (35, false), []⟩,
  ⟨some 37, .load 1 true (.t 36), some (35, false), []⟩,
  ⟨some 38, .bin .gtr (.t 37) (.c (.int .i64 10)), some (35, false), []⟩,
  ⟨some 39, .pick (.t 35) (.c (.bool true)) (.t 38), none, []⟩] [3, 9, 10, 11, 12, 13, 14, 15, 16, 17, 18, 19, 20, 21, 22, 23, 24, 25, 26, 27, 28, 29, 30, 31, 32, 33, 34, 35, 36, 37, 38]
def R_election_terms_3 : AC := .ops false [⟨some 2, .mov (.c (.bool false)), none, []⟩] [1, 39]
def R_election_terms_4 : AC := .ops false [⟨some 40, .fa (.t 1) 7, none, []⟩,
  ⟨some 41, .load 3 false (.t 40), none, []⟩,
  ⟨some 42, .call (.fn 44) [.t 41], none, []⟩,
  ⟨some 43, .un .not (.t 42), none, []⟩,
  ⟨some 44, .mov (.t 43), none, []⟩,
  ⟨some 45, .fa (.t 1) 10, some (44, false), []⟩,
  ⟨some 46, .load 3 false (.t 45), some (44, false), []⟩,
  ⟨some 47, .call (.fn 44) [.t 46], some (44, false), []⟩,
  ⟨some 48, .un .not (.t 47), some (44, false), []⟩,
  ⟨some 49, .pick (.t 44) (.c (.bool true)) (.t 48), none, []⟩,
  ⟨some 50, .mov (.t 49), none, []⟩,
  ⟨some 51, .fa (.t 1) 10, some (50, false), []⟩,
  ⟨some 52, .fa (.t 51) 1, some (50, false), []⟩,
  ⟨some 53, .load 1 true (.t 52), some (50, false), []⟩,
  ⟨some 54, .len (.t 53), some (50, false), []⟩,
  ⟨some 55, .bin .eql (.t 54) (.c (.int .i64 0)), some (50, false), []⟩,
  ⟨some 56, .pick (.t 50) (.c (.bool true)) (.t 55), none, []⟩] [39, 40, 41, 42, 43, 44, 45, 46, 47, 48, 49, 50, 51, 52, 53, 54, 55]
def R_election_terms_5 : AC := .ops false [⟨some 2, .mov (.c (.bool false)), none, []⟩] [1, 56]
def R_election_terms_6 : AC := .ops true [⟨some 58, .fa (.t 1) 10, none, []⟩,
  ⟨some 59, .load 3 false (.t 58), none, [0]⟩,
  ⟨some 60, .call (.fn 12) [.c (.int .i64 1)], none, []⟩,
  ⟨some 61, .call (.fn 45) [.t 59, .t 60], none, [1, 2, 2]⟩,
  ⟨some 57, .mov (.t 61), none, [3]⟩,
  ⟨some 62, .ext (.t 57) 0, none, [4]⟩,
  ⟨some 63, .ext (.t 57) 1, none, [4]⟩,
  ⟨some 4, .mov (.t 62), none, [5, 3, 0, 1, 2, 3, 4, 5]⟩,
  ⟨some 5, .mov (.t 63), none, [6, 7, 0, 1, 2, 3, 4, 5, 6, 7]⟩] [56, 57, 58, 59, 60, 61, 62, 63]
def R_election_terms_7 : AC := .ops false [⟨some 6, .mov (.f 46), none, []⟩] []
def R_election_terms_8 : AC := .ops false [⟨some 64, .mov (.t 5), none, []⟩,
  ⟨some 65, .bin .eql (.t 64) (.c (.int .i64 0)), none, []⟩,
  ⟨some 66, .mov (.t 65), none, []⟩,
  ⟨some 67, .mov (.t 4), some (66, true), []⟩,
  ⟨some 68, .bin .lss (.t 67) (.c (.int .i64 0)), some (66, true), []⟩,
  ⟨some 69, .pick (.t 66) (.t 68) (.c (.bool false)), none, []⟩,
  ⟨some 70, .mov (.t 69), none, []⟩,
  ⟨some 71, .fa (.t 1) 13, some (70, true), []⟩,
  ⟨some 72, .load 1 true (.t 71), some (70, true), []⟩,
  ⟨some 73, .len (.t 72), some (70, true), []⟩,
  ⟨some 74, .bin .geq (.t 73) (.c (.int .i64 1)), some (70, true), []⟩,
  ⟨some 75, .pick (.t 70) (.t 74) (.c (.bool false)), none, []⟩,
  ⟨some 76, .mov (.t 75), none, []⟩,
  ⟨some 77, .fa (.t 1) 13, some (76, true), []⟩,
  ⟨some 78, .load 1 true (.t 77), some (76, true), []⟩,
  ⟨some 79, .len (.t 78), some (76, true), []⟩,
  ⟨some 80, .bin .leq (.t 79) (.c (.int .i64 8)), some (76, true), []⟩,
  ⟨some 81, .pick (.t 76) (.t 80) (.c (.bool false)), none, []⟩,
  ⟨some 82, .mov (.t 81), none, []⟩,
  ⟨some 83, .fa (.t 1) 13, some (82, true), []⟩,
  ⟨some 84, .load 1 true (.t 83), some (82, true), []⟩,
  ⟨some 85, .mov (.t 6), some (82, true), []⟩,
  ⟨some 86, .call (.fn 47) [.t 84, .t 85], some (82, true), []⟩,
  ⟨some 87, .un .not (.t 86), some (82, true), []⟩,
  ⟨some 88, .pick (.t 82) (.t 87) (.c (.bool false)), none, []⟩,
  ⟨some 2, .mov (.t 88), none, []⟩] [1, 4, 5, 6, 64, 65, 66, 67, 68, 69, 70, 71, 72, 73, 74, 75, 76, 77, 78, 79, 80, 81, 82, 83, 84, 85, 86, 87, 88]
def F_election_terms : AFunc := { ntmps := 89, nargs := 1, kills := [[0, 2], [7, 8], [3, 9, 10, 11, 12, 13, 14, 15, 16, 17, 18, 19, 20, 21, 22, 23, 24, 25, 26, 27, 28, 29, 30, 31, 32, 33, 34, 35, 36, 37, 38], [1, 39], [39, 40, 41, 42, 43, 44, 45, 46, 47, 48, 49, 50, 51, 52, 53, 54, 55], [1, 56], [56, 57, 58, 59, 60, 61, 62, 63], [], [1, 4, 5, 6, 64, 65, 66, 67, 68, 69, 70, 71, 72, 73, 74, 75, 76, 77, 78, 79, 80, 81, 82, 83, 84, 85, 86, 87, 88]], results := [.t 2], body := (.seq R_election_terms_0 (.seq R_election_terms_1 (.seq (.seq R_election_terms_2 (.cond (.t 39) (.seq R_election_terms_3 .ret) .skip)) (.seq (.seq R_election_terms_4 (.cond (.t 56) (.seq R_election_terms_5 .ret) .skip)) (.seq R_election_terms_6 (.seq R_election_terms_7 (.seq R_election_terms_8 .ret))))))) }
noncomputable def T25 : { F : AFunc // CT.func [[0, 2], [7, 8], [3, 9, 10, 11, 12, 13, 14, 15, 16, 17, 18, 19, 20, 21, 22, 23, 24, 25, 26, 27, 28, 29, 30, 31, 32, 33, 34, 35, 36, 37, 38], [1, 39], [39, 40, 41, 42, 43, 44, 45, 46, 47, 48, 49, 50, 51, 52, 53, 54, 55], [1, 56], [56, 57, 58, 59, 60, 61, 62, 63], [], [1, 4, 5, 6, 64, 65, 66, 67, 68, 69, 70, 71, 72, 73, 74, 75, 76, 77, 78, 79, 80, 81, 82, 83, 84, 85, 86, 87, 88]] Tryz.f25 = some F } := ⟨F_election_terms, by kernel_rfl⟩
theorem c25 : Cert 25 T25.1 := cert_of T25.2 Tryz.func25
-- suffrage/election.Twin
def R_election_Twin_0 : AC := .ops false [⟨some 1, .box (.t 0), none, []⟩,
  ⟨some 2, .alloc [.str [], .lst 0 [] (some 0), .int .i64 0, .int .u8 0, .int .u8 0, .int .u8 0, .int .i64 0, .bool false, .lst 0 [] (some 0), .lst 0 [] (some 0), .bool false, .lst 0 [] (some 0), .lst 0 [] (some 0), .lst 0 [] (some 0), .int .u8 0, .lst 0 [] (some 0), .lst 0 [] (some 0), .int .u8 0, .int .u8 0, .int .u8 0, .int .u8 0, .int .u8 0, .int .u8 0, .int .u8 0, .int .u8 0, .int .u8 0, .int .u8 0, .int .u8 0, .int .u8 0, .int .u8 0, .int .u8 0, .int .u8 0, .int .u8 0, .int .u8 0, .int .u8 0, .int .u8 0, .int .u8 0, .int .u8 0, .int .u8 0, .int .u8 0, .int .u8 0, .int .u8 0, .int .u8 0, .int .u8 0, .int .u8 0, .int .u8 0, .int .u8 0, .int .u8 0, .int .u8 0, .lst 0 [] (some 0), .lst 0 [] (some 0), .lst 0 [] (some 0), .lst 0 [] (some 0), .lst 0 [] (some 0)], none, []⟩] [0]
def R_election_Twin_1 : AC := .ops false [⟨some 4, .fa (.t 1) 0, none, []⟩,
  ⟨some 3, .mov (.t 4), none, []⟩] [4]
def R_election_Twin_2 : AC := .ops true [⟨some 5, .mov (.t 3), none, []⟩,
  ⟨some 6, .mov (.t 3), none, []⟩,
  ⟨some 7, .mov (.t 3), none, []⟩,
  ⟨some 8, .mov (.t 3), none, []⟩,
  ⟨some 9, .mov (.t 3), none, []⟩,
  ⟨some 10, .nilchk (.t 9), none, [4]⟩,
  ⟨some 11, .fa (.t 10) 0, none, [5]⟩,
  ⟨some 12, .load 4 false (.t 11), none, [6]⟩,
  ⟨some 13, .call (.fn 48) [.t 12], none, [7]⟩,
  ⟨some 14, .mov (.t 3), none, []⟩,
  ⟨some 15, .nilchk (.t 14), none, [9]⟩,
  ⟨some 16, .fa (.t 15) 7, none, [10]⟩,
  ⟨some 17, .load 3 false (.t 16), none, [11]⟩,
  ⟨some 18, .call (.fn 49) [.t 17], none, [12, 8]⟩,
  ⟨some 19, .mov (.t 3), none, []⟩,
  ⟨some 20, .nilchk (.t 19), none, [14]⟩,
  ⟨some 21, .fa (.t 20) 10, none, [15]⟩,
  ⟨some 22, .load 3 false (.t 21), none, [16]⟩,
  ⟨some 23, .call (.fn 49) [.t 22], none, [17, 13]⟩,
  ⟨some 24, .mov (.t 3), none, []⟩,
  ⟨some 25, .nilchk (.t 24), none, [19]⟩,
  ⟨some 26, .fa (.t 25) 13, none, [20]⟩,
  ⟨some 27, .load 1 true (.t 26), none, [21]⟩,
  ⟨some 28, .call (.fn 19) [.t 27], none, [22, 18]⟩,
  ⟨some 29, .nilchk (.t 5), none, [0, 0, 4, 5, 6, 7, 8, 12, 13, 17, 18, 22, 23]⟩,
  ⟨some 30, .fa (.t 29) 0, none, [24, 0, 4, 5, 6, 7, 8, 12, 13, 17, 18, 22, 23]⟩,
  ⟨none, .store 4 (.t 30) (.t 13), none, [25, 8, 23, 0, 4, 5, 6, 7, 8, 12, 13, 17, 18, 22, 23]⟩,
  ⟨some 31, .nilchk (.t 6), none, [1, 0, 1, 4, 5, 6, 7, 8, 9, 10, 11, 12, 13, 17, 18, 22, 23, 24, 25, 26]⟩,
  ⟨some 32, .fa (.t 31) 7, none, [27, 0, 1, 4, 5, 6, 7, 8, 9, 10, 11, 12, 13, 17, 18, 22, 23, 24, 25, 26]⟩,
  ⟨none, .store 3 (.t 32) (.t 18), none, [28, 13, 26, 0, 1, 4, 5, 6, 7, 8, 9, 10, 11, 12, 13, 17, 18, 22, 23, 24, 25, 26]⟩,
  ⟨some 33, .nilchk (.t 7), none, [2, 0, 1, 2, 4, 5, 6, 7, 8, 9, 10, 11, 12, 13, 14, 15, 16, 17, 18, 22, 23, 24, 25, 26, 27, 28, 29]⟩,
  ⟨some 34, .fa (.t 33) 10, none, [30, 0, 1, 2, 4, 5, 6, 7, 8, 9, 10, 11, 12, 13, 14, 15, 16, 17, 18, 22, 23, 24, 25, 26, 27, 28, 29]⟩,
  ⟨none, .store 3 (.t 34) (.t 23), none, [31, 18, 29, 0, 1, 2, 4, 5, 6, 7, 8, 9, 10, 11, 12, 13, 14, 15, 16, 17, 18, 22, 23, 24, 25, 26, 27, 28, 29]⟩,
  ⟨some 35, .nilchk (.t 8), none, [3, 0, 1, 2, 3, 4, 5, 6, 7, 8, 9, 10, 11, 12, 13, 14, 15, 16, 17, 18, 19, 20, 21, 22, 23, 24, 25, 26, 27, 28, 29, 30, 31, 32]⟩,
  ⟨some 36, .fa (.t 35) 13, none, [33, 0, 1, 2, 3, 4, 5, 6, 7, 8, 9, 10, 11, 12, 13, 14, 15, 16, 17, 18, 19, 20, 21, 22, 23, 24, 25, 26, 27, 28, 29, 30, 31, 32]⟩,
  ⟨none, .store 1 (.t 36) (.t 28), none, [34, 23, 32, 0, 1, 2, 3, 4, 5, 6, 7, 8, 9, 10, 11, 12, 13, 14, 15, 16, 17, 18, 19, 20, 21, 22, 23, 24, 25, 26, 27, 28, 29, 30, 31, 32]⟩] [3, 5, 6, 7, 8, 9, 10, 11, 12, 13, 14, 15, 16, 17, 18, 19, 20, 21, 22, 23, 24, 25, 26, 27, 28, 29, 30, 31, 32, 33, 34, 35, 36]
def R_election_Twin_3 : AC := .ops true [⟨some 37, .fa (.t 1) 15, none, []⟩,
  ⟨some 38, .load 1 true (.t 37), none, [0]⟩,
  ⟨some 39, .call (.fn 50) [.t 38], none, [1]⟩,
  ⟨some 40, .fa (.t 1) 16, none, []⟩,
  ⟨some 41, .load 1 true (.t 40), none, [3]⟩,
  ⟨some 42, .call (.fn 51) [.t 41], none, [4, 2]⟩,
  ⟨some 43, .fa (.t 1) 49, none, []⟩,
  ⟨some 44, .load 1 true (.t 43), none, [6]⟩,
  ⟨some 45, .call (.fn 19) [.t 44], none, [7, 5]⟩,
  ⟨some 46, .fa (.t 1) 50, none, []⟩,
  ⟨some 47, .load 3 false (.t 46), none, [9]⟩,
  ⟨some 48, .call (.fn 52) [.t 47], none, [10, 8]⟩,
  ⟨some 49, .fa (.t 1) 53, none, []⟩,
  ⟨some 50, .load 1 false (.t 49), none, [12]⟩,
  ⟨some 51, .call (.fn 53) [.t 50], none, [13, 11]⟩,
  ⟨some 52, .fa (.t 1) 15, none, [0, 1, 2, 4, 5, 7, 8, 10, 11, 13, 14]⟩,
  ⟨none, .store 1 (.t 52) (.t 39), none, [15, 2, 14, 0, 1, 2, 4, 5, 7, 8, 10, 11, 13, 14]⟩,
  ⟨some 53, .fa (.t 1) 16, none, [0, 1, 2, 3, 4, 5, 7, 8, 10, 11, 13, 14, 15, 16]⟩,
  ⟨none, .store 1 (.t 53) (.t 42), none, [17, 5, 16, 0, 1, 2, 3, 4, 5, 7, 8, 10, 11, 13, 14, 15, 16]⟩,
  ⟨some 54, .fa (.t 1) 49, none, [0, 1, 2, 3, 4, 5, 6, 7, 8, 10, 11, 13, 14, 15, 16, 17, 18]⟩,
  ⟨none, .store 1 (.t 54) (.t 45), none, [19, 8, 18, 0, 1, 2, 3, 4, 5, 6, 7, 8, 10, 11, 13, 14, 15, 16, 17, 18]⟩,
  ⟨some 55, .fa (.t 1) 50, none, [0, 1, 2, 3, 4, 5, 6, 7, 8, 9, 10, 11, 13, 14, 15, 16, 17, 18, 19, 20]⟩,
  ⟨none, .store 3 (.t 55) (.t 48), none, [21, 11, 20, 0, 1, 2, 3, 4, 5, 6, 7, 8, 9, 10, 11, 13, 14, 15, 16, 17, 18, 19, 20]⟩,
  ⟨some 56, .fa (.t 1) 53, none, [0, 1, 2, 3, 4, 5, 6, 7, 8, 9, 10, 11, 12, 13, 14, 15, 16, 17, 18, 19, 20, 21, 22]⟩,
  ⟨none, .store 1 (.t 56) (.t 51), none, [23, 14, 22, 0, 1, 2, 3, 4, 5, 6, 7, 8, 9, 10, 11, 12, 13, 14, 15, 16, 17, 18, 19, 20, 21, 22]⟩] [37, 38, 39, 40, 41, 42, 43, 44, 45, 46, 47, 48, 49, 50, 51, 52, 53, 54, 55, 56]
def R_election_Twin_4 : AC := .ops false [⟨some 57, .load 54 false (.t 1), none, []⟩,
  ⟨none, .store 54 (.t 2) (.t 57), none, []⟩] [1, 57]
def F_election_Twin : AFunc := { ntmps := 58, nargs := 1, kills := [[0], [4], [3, 5, 6, 7, 8, 9, 10, 11, 12, 13, 14, 15, 16, 17, 18, 19, 20, 21, 22, 23, 24, 25, 26, 27, 28, 29, 30, 31, 32, 33, 34, 35, 36], [37, 38, 39, 40, 41, 42, 43, 44, 45, 46, 47, 48, 49, 50, 51, 52, 53, 54, 55, 56], [1, 57]], results := [.cell 2 54 false], body := (.seq R_election_Twin_0 (.seq R_election_Twin_1 (.seq R_election_Twin_2 (.seq R_election_Twin_3 (.seq R_election_Twin_4 .ret))))) }
noncomputable def T26 : { F : AFunc // CT.func [[0], [4], [3, 5, 6, 7, 8, 9, 10, 11, 12, 13, 14, 15, 16, 17, 18, 19, 20, 21, 22, 23, 24, 25, 26, 27, 28, 29, 30, 31, 32, 33, 34, 35, 36], [37, 38, 39, 40, 41, 42, 43, 44, 45, 46, 47, 48, 49, 50, 51, 52, 53, 54, 55, 56], [1, 57]] Tryz.f26 = some F } := ⟨F_election_Twin, by kernel_rfl⟩
theorem c26 : Cert 26 T26.1 := cert_of T26.2 Tryz.func26
-- (*suffrage/plain.model).accept$1
noncomputable def T27 : { F : AFunc // CT.func [[0], []] Tryz.f27 = some F } := by
  refine ⟨?F, ?h⟩
  case h =>
    conv => lhs; cbv
theorem c27 : Cert 27 T27.1 := cert_of T27.2 Tryz.func27
-- (*suffrage/plain.model).accept$2
noncomputable def T28 : { F : AFunc // CT.func [[1], [0, 2, 3, 4, 5, 6, 7]] Tryz.f28 = some F } := by
  refine ⟨?F, ?h⟩
  case h =>
    conv => lhs; cbv
theorem c28 : Cert 28 T28.1 := cert_of T28.2 Tryz.func28
-- (*suffrage/plain.model).enrol
def R_plain_model_enrol_0 : AC := .ops false [⟨some 3, .box (.t 1), none, []⟩,
  ⟨some 4, .mov (.c (.bool false)), none, []⟩] [1, 4]
def R_plain_model_enrol_1 : AC := .ops true [⟨some 5, .mov (.t 0), none, []⟩,
  ⟨some 6, .nilchk (.t 5), none, [0]⟩,
  ⟨some 7, .fa (.t 6) 14, none, [1]⟩,
  ⟨some 8, .load 1 true (.t 7), none, [2]⟩,
  ⟨some 9, .bin .neq (.t 8) (.c (.int .i64 0)), none, [3]⟩,
  ⟨some 10, .mov (.t 9), none, [4]⟩,
  ⟨some 11, .fa (.t 3) 1, some (10, false), [5]⟩,
  ⟨some 12, .load 1 true (.t 11), some (10, false), [6, 5]⟩,
  ⟨some 13, .call (.fn 54) [.t 12], some (10, false), [7, 5, 5]⟩,
  ⟨some 14, .un .not (.t 13), some (10, false), [8, 5]⟩,
  ⟨some 15, .pick (.t 10) (.c (.bool true)) (.t 14), none, [5, 9]⟩,
  ⟨some 16, .mov (.t 15), none, [10, 8]⟩,
  ⟨some 17, .fa (.t 3) 2, some (16, false), [11]⟩,
  ⟨some 18, .load 1 true (.t 17), some (16, false), [12, 11]⟩,
  ⟨some 19, .bin .lss (.t 18) (.c (.int .i64 0)), some (16, false), [13, 11]⟩,
  ⟨some 20, .pick (.t 16) (.c (.bool true)) (.t 19), none, [11, 14]⟩,
  ⟨some 21, .mov (.t 20), none, [15, 11]⟩,
  ⟨some 22, .fa (.t 3) 2, some (21, false), [16]⟩,
  ⟨some 23, .load 1 true (.t 22), some (21, false), [17, 16]⟩,
  ⟨some 24, .bin .geq (.t 23) (.c (.int .i64 8)), some (21, false), [18, 16]⟩,
  ⟨some 25, .pick (.t 21) (.c (.bool true)) (.t 24), none, [16, 19]⟩,
  ⟨some 26, .mov (.t 25), none, [20, 16]⟩,
  ⟨some 27, .mov (.t 0), some (26, false), [21]⟩,
  ⟨some 28, .nilchk (.t 27), some (26, false), [22, 21]⟩,
  ⟨some 29, .fa (.t 28) 15, some (26, false), [23, 21]⟩,
  ⟨some 30, .load 1 true (.t 29), some (26, false), [24, 21]⟩,
  ⟨some 31, .fa (.t 3) 1, some (26, false), [21]⟩,
  ⟨some 32, .load 1 true (.t 31), some (26, false), [26, 21]⟩,
  ⟨some 33, .mget 1 (.bool false) false (.t 30) (.t 32), some (26, false), [25, 27, 21]⟩,
  ⟨some 34, .pick (.t 26) (.c (.bool true)) (.t 33), none, [21, 28]⟩,
  ⟨some 35, .mov (.t 34), none, [29, 21]⟩,
  ⟨some 36, .mov (.t 0), some (35, false), [30]⟩,
  ⟨some 37, .nilchk (.t 36), some (35, false), [31, 30]⟩,
  ⟨some 38, .fa (.t 37) 15, some (35, false), [32, 30]⟩,
  ⟨some 39, .load 1 true (.t 38), some (35, false), [33, 30]⟩,
  ⟨some 40, .mlen (.t 39), some (35, false), [34, 30, 30]⟩,
  ⟨some 41, .bin .geq (.t 40) (.c (.int .i64 64)), some (35, false), [35, 30]⟩,
  ⟨some 42, .pick (.t 35) (.c (.bool true)) (.t 41), none, [30, 36]⟩] [5, 6, 7, 8, 9, 10, 11, 12, 13, 14, 15, 16, 17, 18, 19, 20, 21, 22, 23, 24, 25, 26, 27, 28, 29, 30, 31, 32, 33, 34, 35, 36, 37, 38, 39, 40, 41]
def R_plain_model_enrol_2 : AC := .ops false [⟨some 4, .mov (.c (.bool false)), none, []⟩] [0, 3, 42]
def R_plain_model_enrol_3 : AC := .ops true [⟨some 43, .mov (.t 0), none, []⟩,
  ⟨some 44, .nilchk (.t 43), none, [0]⟩,
  ⟨some 45, .fa (.t 44) 15, none, [1]⟩,
  ⟨some 46, .load 1 true (.t 45), none, [2]⟩,
  ⟨some 47, .fa (.t 3) 1, none, []⟩,
  ⟨some 48, .load 1 true (.t 47), none, [4]⟩,
  ⟨some 49, .mov (.t 0), none, []⟩,
  ⟨some 50, .nilchk (.t 49), none, [6]⟩,
  ⟨some 51, .fa (.t 50) 16, none, [7]⟩,
  ⟨some 52, .load 1 true (.t 51), none, [8]⟩,
  ⟨some 53, .fa (.t 3) 1, none, []⟩,
  ⟨some 54, .load 1 true (.t 53), none, [10]⟩,
  ⟨some 55, .mapent 1 (.bool false) (.t 46) (.t 48), none, [3, 5, 9]⟩,
  ⟨some 56, .ext (.t 55) 1, none, [12]⟩,
  ⟨none, .entstore (.t 46) (.t 56) (.c (.bool true)), none, [3, 13, 12, 0, 1, 2, 3, 4, 5, 9, 12]⟩,
  ⟨some 57, .mapent 1 (.bool false) (.t 52) (.t 54), none, [9, 11, 14, 0, 1, 2, 3, 4, 5, 9, 12, 13, 14]⟩,
  ⟨some 58, .ext (.t 57) 1, none, [15]⟩,
  ⟨none, .entstore (.t 52) (.t 58) (.c (.bool true)), none, [9, 16, 15, 0, 1, 2, 3, 4, 5, 6, 7, 8, 9, 10, 11, 12, 13, 14, 15]⟩] [0, 3, 42, 43, 44, 45, 46, 47, 48, 49, 50, 51, 52, 53, 54, 55, 56, 57, 58]
def R_plain_model_enrol_4 : AC := .ops false [⟨some 4, .mov (.c (.bool true)), none, []⟩] []
def F_plain_model_enrol : AFunc := { ntmps := 59, nargs := 2, kills := [[1, 4], [5, 6, 7, 8, 9, 10, 11, 12, 13, 14, 15, 16, 17, 18, 19, 20, 21, 22, 23, 24, 25, 26, 27, 28, 29, 30, 31, 32, 33, 34, 35, 36, 37, 38, 39, 40, 41], [0, 3, 42], [0, 3, 42, 43, 44, 45, 46, 47, 48, 49, 50, 51, 52, 53, 54, 55, 56, 57, 58], []], results := [.t 4], body := (.seq R_plain_model_enrol_0 (.seq (.seq R_plain_model_enrol_1 (.cond (.t 42) (.seq R_plain_model_enrol_2 .ret) .skip)) (.seq R_plain_model_enrol_3 (.seq R_plain_model_enrol_4 .ret)))) }
noncomputable def T29 : { F : AFunc // CT.func [[1, 4], [5, 6, 7, 8, 9, 10, 11, 12, 13, 14, 15, 16, 17, 18, 19, 20, 21, 22, 23, 24, 25, 26, 27, 28, 29, 30, 31, 32, 33, 34, 35, 36, 37, 38, 39, 40, 41], [0, 3, 42], [0, 3, 42, 43, 44, 45, 46, 47, 48, 49, 50, 51, 52, 53, 54, 55, 56, 57, 58], []] Tryz.f29 = some F } := ⟨F_plain_model_enrol, by kernel_rfl⟩
theorem c29 : Cert 29 T29.1 := cert_of T29.2 Tryz.func29
-- (*suffrage/plain.model).turn
noncomputable def T30 : { F : AFunc // CT.func [[6], [1, 2, 7, 8, 9, 10, 11, 12, 13, 14, 15, 16], [0, 17], [0, 17, 18, 19, 20, 21, 22, 23, 24], []] Tryz.f30 = some F } := by
  refine ⟨?F, ?h⟩
  case h =>
    conv => lhs; cbv
theorem c30 : Cert 30 T30.1 := cert_of T30.2 Tryz.func30
-- (*suffrage/plain.model).move
noncomputable def T31 : { F : AFunc // CT.func [[8], [0, 9, 10, 11, 12, 13, 14, 15, 16, 17, 18], [1, 2, 3, 19], [2, 19, 20, 21], [1, 3, 22, 23], []] Tryz.f31 = some F } := by
  refine ⟨?F, ?h⟩
  case h =>
    conv => lhs; cbv
theorem c31 : Cert 31 T31.1 := cert_of T31.2 Tryz.func31
-- (*suffrage/plain.model).cast
def R_plain_model_cast_0 : AC := .ops false [⟨some 3, .box (.t 1), none, []⟩,
  ⟨some 4, .mov (.c (.bool false)), none, []⟩] [1, 4]
def R_plain_model_cast_1 : AC := .ops true [⟨some 9, .mov (.t 0), none, []⟩,
  ⟨some 10, .nilchk (.t 9), none, [0]⟩,
  ⟨some 11, .fa (.t 10) 14, none, [1]⟩,
  ⟨some 12, .load 1 true (.t 11), none, [2]⟩,
  ⟨some 13, .bin .neq (.t 12) (.c (.int .i64 1)), none, [3]⟩,
  ⟨some 14, .mov (.t 13), none, [4]⟩,
  ⟨some 15, .mov (.t 0), some (14, false), [5]⟩,
  ⟨some 16, .nilchk (.t 15), some (14, false), [6, 5]⟩,
  ⟨some 17, .fa (.t 16) 17, some (14, false), [7, 5]⟩,
  ⟨some 18, .load 1 true (.t 17), some (14, false), [8, 5]⟩,
  ⟨some 19, .fa (.t 3) 1, some (14, false), [5]⟩,
  ⟨some 20, .load 1 true (.t 19), some (14, false), [10, 5]⟩,
  ⟨some 21, .mget 1 (.bool false) false (.t 18) (.t 20), some (14, false), [9, 11, 5]⟩,
  ⟨some 22, .un .not (.t 21), some (14, false), [12, 5]⟩,
  ⟨some 23, .pick (.t 14) (.c (.bool true)) (.t 22), none, [5, 13]⟩,
  ⟨some 24, .mov (.t 23), none, [14, 5]⟩,
  ⟨some 25, .fa (.t 3) 3, some (24, false), [15]⟩,
  ⟨some 26, .load 1 true (.t 25), some (24, false), [16, 15]⟩,
  ⟨some 27, .call (.fn 54) [.t 26], some (24, false), [17, 15, 15]⟩,
  ⟨some 28, .un .not (.t 27), some (24, false), [18, 15]⟩,
  ⟨some 29, .pick (.t 24) (.c (.bool true)) (.t 28), none, [15, 19]⟩] [9, 10, 11, 12, 13, 14, 15, 16, 17, 18, 19, 20, 21, 22, 23, 24, 25, 26, 27, 28]
def R_plain_model_cast_2 : AC := .ops false [⟨some 4, .mov (.c (.bool false)), none, []⟩] [0, 3, 29]
def R_plain_model_cast_3 : AC := .ops true [⟨some 31, .mov (.t 0), none, []⟩,
  ⟨some 32, .nilchk (.t 31), none, [0]⟩,
  ⟨some 33, .fa (.t 32) 0, none, [1]⟩,
  ⟨some 34, .fa (.t 33) 0, none, [2]⟩,
  ⟨some 35, .load 4 false (.t 34), none, [3]⟩,
  ⟨some 36, .mov (.t 0), none, []⟩,
  ⟨some 37, .nilchk (.t 36), none, [5]⟩,
  ⟨some 38, .fa (.t 37) 0, none, [6]⟩,
  ⟨some 39, .fa (.t 38) 4, none, [7]⟩,
  ⟨some 40, .load 3 false (.t 39), none, [8]⟩,
  ⟨some 41, .fa (.t 3) 4, none, []⟩,
  ⟨some 42, .load 1 false (.t 41), none, [10]⟩,
  ⟨some 43, .fa (.t 3) 5, none, []⟩,
  ⟨some 44, .load 1 true (.t 43), none, [12]⟩,
  ⟨some 45, .call (.fn 55) [.t 35, .t 40, .t 42, .t 44], none, [4, 9, 11, 13]⟩,
  ⟨some 30, .mov (.t 45), none, [14]⟩,
  ⟨some 46, .ext (.t 30) 0, none, [15]⟩,
  ⟨some 47, .ext (.t 30) 1, none, [15]⟩,
  ⟨some 5, .alloc [.int .u8 0, .lst 0 [] (some 0), .int .i64 0, .lst 0 [] (some 0)], none, []⟩,
  ⟨none, .store 4 (.t 5) (.t 46), none, [18, 16, 14, 0, 1, 2, 3, 4, 5, 6, 7, 8, 9, 10, 11, 12, 13, 14, 15, 16, 18]⟩,
  ⟨some 6, .mov (.t 47), none, [17, 19, 0, 1, 2, 3, 4, 5, 6, 7, 8, 9, 10, 11, 12, 13, 14, 15, 16, 17, 18, 19]⟩] [29, 30, 31, 32, 33, 34, 35, 36, 37, 38, 39, 40, 41, 42, 43, 44, 45, 46, 47]
def R_plain_model_cast_4 : AC := .ops false [⟨some 48, .mov (.t 6), none, []⟩,
  ⟨some 49, .bin .neq (.t 48) (.c (.int .i64 0)), none, []⟩,
  ⟨some 50, .mov (.t 49), none, []⟩,
  ⟨some 51, .fa (.t 5) 3, some (50, false), []⟩,
  ⟨some 52, .load 1 true (.t 51), some (50, false), []⟩,
  ⟨some 53, .len (.t 52), some (50, false), []⟩,
  ⟨some 54, .bin .gtr (.t 53) (.c (.int .i64 0)), some (50, false), []⟩,
  ⟨some 55, .pick (.t 50) (.c (.bool true)) (.t 54), none, []⟩] [6, 48, 49, 50, 51, 52, 53, 54]
def R_plain_model_cast_5 : AC := .ops false [⟨some 4, .mov (.c (.bool false)), none, []⟩] [0, 3, 5, 55]
def R_plain_model_cast_6 : AC := .ops true [⟨some 57, .mov (.t 0), none, []⟩,
  ⟨some 58, .nilchk (.t 57), none, [0]⟩,
  ⟨some 59, .fa (.t 58) 18, none, [1]⟩,
  ⟨some 60, .load 1 true (.t 59), none, [2]⟩,
  ⟨some 61, .fa (.t 3) 3, none, []⟩,
  ⟨some 62, .load 1 true (.t 61), none, [4]⟩,
  ⟨some 63, .mget 1 (.int .i64 0) true (.t 60) (.t 62), none, [3, 5]⟩,
  ⟨some 56, .mov (.t 63), none, [6]⟩,
  ⟨some 64, .ext (.t 56) 0, none, [7]⟩,
  ⟨some 65, .ext (.t 56) 1, none, [7]⟩,
  ⟨some 7, .mov (.t 64), none, [8, 0, 1, 2, 3, 4, 5, 6, 7, 8]⟩,
  ⟨some 8, .mov (.t 65), none, [9, 10, 0, 1, 2, 3, 4, 5, 6, 7, 8, 9, 10]⟩] [55, 56, 57, 58, 59, 60, 61, 62, 63, 64, 65]
def R_plain_model_cast_7 : AC := .ops false [⟨some 66, .mov (.t 7), none, []⟩,
  ⟨some 67, .bin .geq (.t 66) (.c (.int .i64 64)), none, []⟩,
  ⟨some 68, .mov (.t 67), none, []⟩,
  ⟨some 69, .mov (.t 8), some (68, false), []⟩,
  ⟨some 70, .un .not (.t 69), some (68, false), []⟩,
  ⟨some 71, .mov (.t 70), some (68, false), []⟩,
  ⟨some 72, .mov (.t 0), some (71, true), []⟩,
  ⟨some 73, .nilchk (.t 72), some (71, true), []⟩,
  ⟨some 74, .fa (.t 73) 18, some (71, true), []⟩,
  ⟨some 75, .load 1 true (.t 74), some (71, true), []⟩,
  ⟨some 76, .mlen (.t 75), some (71, true), []⟩,
  ⟨some 77, .bin .geq (.t 76) (.c (.int .i64 16)), some (71, true), []⟩,
  ⟨some 78, .pick (.t 71) (.t 77) (.c (.bool false)), some (68, false), []⟩,
  ⟨some 79, .pick (.t 68) (.c (.bool true)) (.t 78), none, []⟩] [8, 66, 67, 68, 69, 70, 71, 72, 73, 74, 75, 76, 77, 78]
def R_plain_model_cast_8 : AC := .ops false [⟨some 4, .mov (.c (.bool false)), none, []⟩] [0, 3, 5, 7, 79]
def R_plain_model_cast_9 : AC := .ops true [⟨some 80, .mov (.t 0), none, []⟩,
  ⟨some 81, .nilchk (.t 80), none, [0]⟩,
  ⟨some 82, .fa (.t 81) 17, none, [1]⟩,
  ⟨some 83, .load 1 true (.t 82), none, [2]⟩,
  ⟨some 84, .fa (.t 3) 1, none, []⟩,
  ⟨some 85, .load 1 true (.t 84), none, [4]⟩,
  ⟨none, .mdel 1 (.t 83) (.t 85), none, [3, 5]⟩] [79, 80, 81, 82, 83, 84, 85]
def R_plain_model_cast_10 : AC := .ops true [⟨some 86, .mov (.t 0), none, []⟩,
  ⟨some 87, .nilchk (.t 86), none, [0]⟩,
  ⟨some 88, .fa (.t 87) 18, none, [1]⟩,
  ⟨some 89, .load 1 true (.t 88), none, [2]⟩,
  ⟨some 90, .fa (.t 3) 3, none, []⟩,
  ⟨some 91, .load 1 true (.t 90), none, [4]⟩,
  ⟨some 92, .mov (.t 7), none, []⟩,
  ⟨some 93, .bin .add (.t 92) (.c (.int .i64 1)), none, [6]⟩,
  ⟨none, .mset 1 (.t 89) (.t 91) (.t 93), none, [3, 5, 7, 0, 1, 2, 3, 4, 5, 6, 7]⟩] [3, 7, 86, 87, 88, 89, 90, 91, 92, 93]
def R_plain_model_cast_11 : AC := .ops true [⟨some 94, .mov (.t 0), none, []⟩,
  ⟨some 95, .mov (.t 0), none, []⟩,
  ⟨some 96, .nilchk (.t 95), none, [1]⟩,
  ⟨some 97, .fa (.t 96) 19, none, [2]⟩,
  ⟨some 98, .load 1 true (.t 97), none, [3]⟩,
  ⟨some 99, .fa (.t 5) 0, none, []⟩,
  ⟨some 100, .load 2 false (.t 99), none, [5]⟩,
  ⟨some 101, .bslice 2 [.int .u8 0, .lst 0 [] (some 0)] 1 [(0, .t 100)], none, [6]⟩,
  ⟨some 102, .append 2 32 (.t 98) (.t 101), none, [4, 7]⟩,
  ⟨some 103, .nilchk (.t 94), none, [0, 0, 1, 2, 3, 4, 5, 6, 7, 8]⟩,
  ⟨some 104, .fa (.t 103) 19, none, [9, 0, 1, 2, 3, 4, 5, 6, 7, 8]⟩,
  ⟨none, .store 1 (.t 104) (.t 102), none, [10, 8, 8, 0, 1, 2, 3, 4, 5, 6, 7, 8]⟩] [0, 5, 94, 95, 96, 97, 98, 99, 100, 101, 102, 103, 104]
def R_plain_model_cast_12 : AC := .ops false [⟨some 4, .mov (.c (.bool true)), none, []⟩] []
def F_plain_model_cast : AFunc := { ntmps := 105, nargs := 2, kills := [[1, 4], [9, 10, 11, 12, 13, 14, 15, 16, 17, 18, 19, 20, 21, 22, 23, 24, 25, 26, 27, 28], [0, 3, 29], [29, 30, 31, 32, 33, 34, 35, 36, 37, 38, 39, 40, 41, 42, 43, 44, 45, 46, 47], [6, 48, 49, 50, 51, 52, 53, 54], [0, 3, 5, 55], [55, 56, 57, 58, 59, 60, 61, 62, 63, 64, 65], [8, 66, 67, 68, 69, 70, 71, 72, 73, 74, 75, 76, 77, 78], [0, 3, 5, 7, 79], [79, 80, 81, 82, 83, 84, 85], [3, 7, 86, 87, 88, 89, 90, 91, 92, 93], [0, 5, 94, 95, 96, 97, 98, 99, 100, 101, 102, 103, 104], []], results := [.t 4], body := (.seq R_plain_model_cast_0 (.seq (.seq R_plain_model_cast_1 (.cond (.t 29) (.seq R_plain_model_cast_2 .ret) .skip)) (.seq R_plain_model_cast_3 (.seq (.seq R_plain_model_cast_4 (.cond (.t 55) (.seq R_plain_model_cast_5 .ret) .skip)) (.seq R_plain_model_cast_6 (.seq (.seq R_plain_model_cast_7 (.cond (.t 79) (.seq R_plain_model_cast_8 .ret) .skip)) (.seq R_plain_model_cast_9 (.seq R_plain_model_cast_10 (.seq R_plain_model_cast_11 (.seq R_plain_model_cast_12 .ret)))))))))) }
noncomputable def T32 : { F : AFunc // CT.func [[1, 4], [9, 10, 11, 12, 13, 14, 15, 16, 17, 18, 19, 20, 21, 22, 23, 24, 25, 26, 27, 28], [0, 3, 29], [29, 30, 31, 32, 33, 34, 35, 36, 37, 38, 39, 40, 41, 42, 43, 44, 45, 46, 47], [6, 48, 49, 50, 51, 52, 53, 54], [0, 3, 5, 55], [55, 56, 57, 58, 59, 60, 61, 62, 63, 64, 65], [8, 66, 67, 68, 69, 70, 71, 72, 73, 74, 75, 76, 77, 78], [0, 3, 5, 7, 79], [79, 80, 81, 82, 83, 84, 85], [3, 7, 86, 87, 88, 89, 90, 91, 92, 93], [0, 5, 94, 95, 96, 97, 98, 99, 100, 101, 102, 103, 104], []] Tryz.f32 = some F } := ⟨F_plain_model_cast, by kernel_rfl⟩
theorem c32 : Cert 32 T32.1 := cert_of T32.2 Tryz.func32
-- suffrage/contest.odd
noncomputable def T33 : { F : AFunc // CT.func [[2], [0, 3, 4]] Tryz.f33 = some F } := by
  refine ⟨?F, ?h⟩
  case h =>
    conv => lhs; cbv
theorem c33 : Cert 33 T33.1 := cert_of T33.2 Tryz.func33
-- suffrage/contest.twice
noncomputable def T34 : { F : AFunc // CT.func [[2], [], [], [8, 9, 10, 11], [3, 4, 12, 13, 14, 15], [0, 5, 6, 7, 16], [16, 17], [0, 5, 6, 7, 8]] Tryz.f34 = some F } := by
  refine ⟨?F, ?h⟩
  case h =>
    conv => lhs; cbv
theorem c34 : Cert 34 T34.1 := cert_of T34.2 Tryz.func34
end Go.Proofs.YtmkaekblmbjhpaaGreat
