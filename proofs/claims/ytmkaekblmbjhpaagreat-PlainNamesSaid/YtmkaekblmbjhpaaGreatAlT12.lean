/- The functions in the abstract language, worked out by Lean. -/
import Derived.Test.YtmkaekblmbjhpaaGreatAlX
set_option linter.unusedVariables false
set_option maxHeartbeats 1000000
set_option maxRecDepth 100000
namespace Go.Proofs.YtmkaekblmbjhpaaGreat
-- suffrage/runoff.firsts
noncomputable def T196 : { F : AFunc // CT.func [[0, 4], [9, 10, 11], [2, 12], [], [16, 17, 18], [19, 20, 21, 22], [23], [7, 8, 24, 25, 26, 27, 28, 29, 30, 31, 32, 33, 34, 35, 36], [7, 8, 24, 37, 38, 39, 40], [41], [1, 13, 14, 15, 16, 42, 43]] Tryz.f196 = some F } := by
  refine ⟨?F, ?h⟩
  case h =>
    conv => lhs; cbv
theorem c196 : Cert 196 T196.1 := cert_of T196.2 Tryz.func196
-- (*suffrage/runoff.count).round$1
noncomputable def T197 : { F : AFunc // CT.func [[3], [0, 1, 4, 5, 6, 7, 8, 9]] Tryz.f197 = some F } := by
  refine ⟨?F, ?h⟩
  case h =>
    conv => lhs; cbv
theorem c197 : Cert 197 T197.1 := cert_of T197.2 Tryz.func197
-- slices.Contains[[]int,int]
noncomputable def T198 : { F : AFunc // CT.func [[4], [0, 1, 5, 6, 7, 8]] Tryz.f198 = some F } := by
  refine ⟨?F, ?h⟩
  case h =>
    conv => lhs; cbv
theorem c198 : Cert 198 T198.1 := cert_of T198.2 Tryz.func198
-- (*suffrage/runoff.count).round$2
noncomputable def T199 : { F : AFunc // CT.func [[3], [0, 1, 4, 5, 6, 7]] Tryz.f199 = some F } := by
  refine ⟨?F, ?h⟩
  case h =>
    conv => lhs; cbv
theorem c199 : Cert 199 T199.1 := cert_of T199.2 Tryz.func199
-- (*suffrage/choose.Count).Last
noncomputable def T200 : { F : AFunc // CT.func [[4], [6, 7, 8, 9, 10], [11, 12, 13, 14, 15], [0, 1, 5, 16, 17, 18, 19, 20, 21]] Tryz.f200 = some F } := by
  refine ⟨?F, ?h⟩
  case h =>
    conv => lhs; cbv
theorem c200 : Cert 200 T200.1 := cert_of T200.2 Tryz.func200
-- suffrage/choose.Least
noncomputable def T201 : { F : AFunc // CT.func [[1, 4], [0, 3, 5, 6, 7]] Tryz.f201 = some F } := by
  refine ⟨?F, ?h⟩
  case h =>
    conv => lhs; cbv
theorem c201 : Cert 201 T201.1 := cert_of T201.2 Tryz.func201
-- (*suffrage/runoff.count).round$3
noncomputable def T202 : { F : AFunc // CT.func [[3], [0, 1, 4, 5, 6, 7]] Tryz.f202 = some F } := by
  refine ⟨?F, ?h⟩
  case h =>
    conv => lhs; cbv
theorem c202 : Cert 202 T202.1 := cert_of T202.2 Tryz.func202
-- (*suffrage/runoff.count).round$4
noncomputable def T203 : { F : AFunc // CT.func [[3], [0, 1, 4, 5, 6]] Tryz.f203 = some F } := by
  refine ⟨?F, ?h⟩
  case h =>
    conv => lhs; cbv
theorem c203 : Cert 203 T203.1 := cert_of T203.2 Tryz.func203
-- suffrage/runoff.Firsts
noncomputable def T204 : { F : AFunc // CT.func [[0, 1, 4, 5, 6], [7, 8, 9, 10, 11, 12, 13], [2, 3, 14], [2, 3, 14, 15, 16, 17, 18, 19, 20], [21, 22]] Tryz.f204 = some F } := by
  refine ⟨?F, ?h⟩
  case h =>
    conv => lhs; cbv
theorem c204 : Cert 204 T204.1 := cert_of T204.2 Tryz.func204
-- suffrage/coombs.rounds$1
noncomputable def T205 : { F : AFunc // CT.func [[3], [0, 1, 4, 5, 6]] Tryz.f205 = some F } := by
  refine ⟨?F, ?h⟩
  case h =>
    conv => lhs; cbv
theorem c205 : Cert 205 T205.1 := cert_of T205.2 Tryz.func205
-- suffrage/quota.Droop
noncomputable def T206 : { F : AFunc // CT.func [[4, 5], [6, 7, 8], [0, 1, 9], [0, 1, 9, 10, 11, 12, 13, 14]] Tryz.f206 = some F } := by
  refine ⟨?F, ?h⟩
  case h =>
    conv => lhs; cbv
theorem c206 : Cert 206 T206.1 := cert_of T206.2 Tryz.func206
-- suffrage/profile.count
noncomputable def T207 : { F : AFunc // CT.func [[0, 5], [8, 9], [10], [1, 2, 11, 12], [2, 5, 11, 13], [], [17, 18, 19], [20, 21], [7, 22, 23, 24, 25, 26], [7, 22, 27], [1, 14, 15, 16, 17, 28]] Tryz.f207 = some F } := by
  refine ⟨?F, ?h⟩
  case h =>
    conv => lhs; cbv
theorem c207 : Cert 207 T207.1 := cert_of T207.2 Tryz.func207
-- suffrage/profile.Marked$1
noncomputable def T208 : { F : AFunc // CT.func [[0, 2], [1, 3, 4, 5, 6]] Tryz.f208 = some F } := by
  refine ⟨?F, ?h⟩
  case h =>
    conv => lhs; cbv
theorem c208 : Cert 208 T208.1 := cert_of T208.2 Tryz.func208
-- (*suffrage/gregory.count).had
def R_gregory_count_had_0 : AC := .ops false [⟨some 2, .mov (.c (.lst 0 [] (some 0))), none, []⟩,
  ⟨some 3, .mov (.c (.int .i64 0)), none, []⟩] [2, 3]
def R_gregory_count_had_1 : AC := .ops false [⟨some 10, .mov (.t 0), none, []⟩,
  ⟨some 11, .nilchk (.t 10), none, []⟩,
  ⟨some 12, .fa (.t 11) 2, none, []⟩,
  ⟨some 13, .load 1 true (.t 12), none, []⟩,
  ⟨some 14, .len (.t 13), none, []⟩,
  ⟨some 15, .mkslice 1 8 [.int .i64 0] (.t 14) (.t 14), none, []⟩,
  ⟨some 2, .mov (.t 15), none, []⟩] [10, 11, 12, 13, 14, 15]
def R_gregory_count_had_2 : AC := .ops false [⟨some 16, .mov (.t 0), none, []⟩,
  ⟨some 17, .nilchk (.t 16), none, []⟩,
  ⟨some 18, .fa (.t 17) 1, none, []⟩,
  ⟨some 19, .load 1 true (.t 18), none, []⟩,
  ⟨some 20, .len (.t 19), none, []⟩,
  ⟨some 21, .mov (.c (.int .i64 0)), none, []⟩] [16, 17, 18]
def R_gregory_count_had_3 : AC := .ops false [⟨some 22, .bin .lss (.t 21) (.t 20), none, []⟩] []
def R_gregory_count_had_4 : AC := .ops false [⟨some 23, .ia 3 (.t 19) (.t 21), none, []⟩,
  ⟨some 24, .load 3 false (.t 23), none, []⟩,
  ⟨some 5, .alloc [.lst 0 [] (some 0), .int .i64 0, .int .i64 0], none, []⟩,
  ⟨none, .store 3 (.t 5) (.t 24), none, []⟩] [22, 23, 24]
def R_gregory_count_had_5 : AC := .ops false [⟨some 26, .mov (.t 0), none, []⟩,
  ⟨some 27, .load 3 false (.t 5), none, []⟩,
  ⟨some 28, .call (.fn 270) [.t 26, .t 27], none, []⟩,
  ⟨some 25, .mov (.t 28), none, []⟩,
  ⟨some 29, .ext (.t 25) 0, none, []⟩,
  ⟨some 30, .ext (.t 25) 1, none, []⟩,
  ⟨some 6, .mov (.t 29), none, []⟩,
  ⟨some 7, .mov (.t 30), none, []⟩] [25, 26, 27, 28, 29, 30]
def R_gregory_count_had_6 : AC := .ops false [⟨some 31, .mov (.t 7), none, []⟩] [7]
def R_gregory_count_had_7 : AC := .ops true [⟨some 32, .mov (.t 2), none, []⟩,
  ⟨some 33, .mov (.t 6), none, []⟩,
  ⟨some 34, .ia 1 (.t 32) (.t 33), none, [0, 1]⟩,
  ⟨some 35, .load 1 true (.t 34), none, [2]⟩,
  ⟨some 36, .fa (.t 5) 1, none, []⟩,
  ⟨some 37, .load 1 true (.t 36), none, [4]⟩,
  ⟨some 38, .fa (.t 5) 2, none, []⟩,
  ⟨some 39, .load 1 true (.t 38), none, [6]⟩,
  ⟨some 40, .bin .mul (.t 37) (.t 39), none, [5, 7]⟩,
  ⟨some 41, .bin .add (.t 35) (.t 40), none, [3, 8]⟩,
  ⟨some 42, .ia 1 (.t 32) (.t 33), none, [0, 1, 0, 1, 2, 3, 4, 5, 6, 7, 8, 9]⟩,
  ⟨none, .store 1 (.t 42) (.t 41), none, [10, 9, 0, 1, 2, 3, 4, 5, 6, 7, 8, 9]⟩] [5, 6, 31, 32, 33, 34, 35, 36, 37, 38, 39, 40, 41, 42]
def R_gregory_count_had_8 : AC := .ops false [⟨some 43, .bin .add (.t 21) (.c (.int .i64 1)), none, []⟩,
  ⟨some 21, .mov (.t 43), none, []⟩] [5, 6, 31, 43]
def L_gregory_count_had_1 : AC := (.seq R_gregory_count_had_3 (.seq (.cond (.t 22) .skip (.exit 0)) (.seq (.block 1 (.seq R_gregory_count_had_4 (.seq R_gregory_count_had_5 (.seq R_gregory_count_had_6 (.cond (.t 31) R_gregory_count_had_7 .skip))))) R_gregory_count_had_8)))
def R_gregory_count_had_9 : AC := .ops false [⟨some 44, .mov (.t 0), none, []⟩,
  ⟨some 45, .nilchk (.t 44), none, []⟩,
  ⟨some 46, .fa (.t 45) 5, none, []⟩,
  ⟨some 47, .load 1 true (.t 46), none, []⟩,
  ⟨some 48, .bin .mul (.t 47) (.c (.int .i64 1000000000)), none, []⟩,
  ⟨some 3, .mov (.t 48), none, []⟩] [19, 20, 21, 22, 44, 45, 46, 47, 48]
def R_gregory_count_had_10 : AC := .ops false [⟨some 49, .mov (.t 0), none, []⟩,
  ⟨some 50, .nilchk (.t 49), none, []⟩,
  ⟨some 51, .fa (.t 50) 2, none, []⟩,
  ⟨some 52, .load 1 true (.t 51), none, []⟩,
  ⟨some 53, .len (.t 52), none, []⟩,
  ⟨some 54, .mov (.c (.int .i64 0)), none, []⟩] [49, 50, 51]
def R_gregory_count_had_11 : AC := .ops false [⟨some 55, .bin .lss (.t 54) (.t 53), none, []⟩] []
def R_gregory_count_had_12 : AC := .ops false [⟨some 56, .mov (.t 54), none, []⟩,
  ⟨some 57, .ia 1 (.t 52) (.t 54), none, []⟩,
  ⟨some 58, .load 1 true (.t 57), none, []⟩,
  ⟨some 8, .mov (.t 56), none, []⟩,
  ⟨some 9, .mov (.t 58), none, []⟩] [55, 56, 57, 58]
def R_gregory_count_had_13 : AC := .ops true [⟨some 59, .mov (.t 2), none, []⟩,
  ⟨some 60, .mov (.t 8), none, []⟩,
  ⟨some 61, .mov (.t 9), none, []⟩,
  ⟨some 62, .mov (.t 2), none, []⟩,
  ⟨some 63, .mov (.t 8), none, []⟩,
  ⟨some 64, .ia 1 (.t 62) (.t 63), none, [3, 4]⟩,
  ⟨some 65, .load 1 true (.t 64), none, [5]⟩,
  ⟨some 66, .mov (.t 0), none, []⟩,
  ⟨some 67, .nilchk (.t 66), none, [7]⟩,
  ⟨some 68, .fa (.t 67) 4, none, [8]⟩,
  ⟨some 69, .load 1 true (.t 68), none, [9]⟩,
  ⟨some 70, .no, none, [2]⟩,
  ⟨some 71, .nilchk (.t 70), none, [11]⟩,
  ⟨some 72, .mov (.t 61), none, [2, 11, 12]⟩,
  ⟨some 73, .call (.meth (.t 72) [(250, 345), (306, 347)]) [.t 65, .t 69], none, [13, 6, 10]⟩,
  ⟨some 74, .ia 1 (.t 59) (.t 60), none, [0, 1, 0, 1, 2, 3, 4, 5, 6, 7, 8, 9, 10, 11, 12, 13, 14]⟩,
  ⟨none, .store 1 (.t 74) (.t 73), none, [15, 14, 14, 0, 1, 2, 3, 4, 5, 6, 7, 8, 9, 10, 11, 12, 13, 14]⟩] [9, 59, 60, 61, 62, 63, 64, 65, 66, 67, 68, 69, 70, 71, 72, 73, 74]
def R_gregory_count_had_14 : AC := .ops false [⟨some 75, .mov (.t 3), none, []⟩,
  ⟨some 76, .mov (.t 2), none, []⟩,
  ⟨some 77, .mov (.t 8), none, []⟩,
  ⟨some 78, .ia 1 (.t 76) (.t 77), none, []⟩,
  ⟨some 79, .load 1 true (.t 78), none, []⟩,
  ⟨some 80, .bin .sub (.t 75) (.t 79), none, []⟩,
  ⟨some 3, .mov (.t 80), none, []⟩] [8, 75, 76, 77, 78, 79, 80]
def R_gregory_count_had_15 : AC := .ops false [⟨some 81, .bin .add (.t 54) (.c (.int .i64 1)), none, []⟩,
  ⟨some 54, .mov (.t 81), none, []⟩] [81]
def L_gregory_count_had_2 : AC := (.seq R_gregory_count_had_11 (.seq (.cond (.t 55) .skip (.exit 2)) (.seq (.block 3 (.seq R_gregory_count_had_12 (.seq R_gregory_count_had_13 R_gregory_count_had_14))) R_gregory_count_had_15)))
def R_gregory_count_had_16 : AC := .ops false [⟨some 82, .mov (.t 2), none, []⟩,
  ⟨some 83, .mov (.t 3), none, []⟩,
  ⟨some 84, .max [.t 83, .c (.int .i64 0)], none, []⟩,
  ⟨some 2, .mov (.t 82), none, []⟩,
  ⟨some 3, .mov (.t 84), none, []⟩] [0, 52, 53, 54, 55, 82, 83, 84]
def F_gregory_count_had : AFunc := { ntmps := 85, nargs := 1, kills := [[2, 3], [10, 11, 12, 13, 14, 15], [16, 17, 18], [], [22, 23, 24], [25, 26, 27, 28, 29, 30], [7], [5, 6, 31, 32, 33, 34, 35, 36, 37, 38, 39, 40, 41, 42], [5, 6, 31, 43], [19, 20, 21, 22, 44, 45, 46, 47, 48], [49, 50, 51], [], [55, 56, 57, 58], [9, 59, 60, 61, 62, 63, 64, 65, 66, 67, 68, 69, 70, 71, 72, 73, 74], [8, 75, 76, 77, 78, 79, 80], [81], [0, 52, 53, 54, 55, 82, 83, 84]], results := [.t 2, .t 3], body := (.seq R_gregory_count_had_0 (.seq R_gregory_count_had_1 (.seq (.seq R_gregory_count_had_2 (.block 0 (.loop L_gregory_count_had_1))) (.seq R_gregory_count_had_9 (.seq (.seq R_gregory_count_had_10 (.block 2 (.loop L_gregory_count_had_2))) (.seq R_gregory_count_had_16 .ret)))))) }
noncomputable def T209 : { F : AFunc // CT.func [[2, 3], [10, 11, 12, 13, 14, 15], [16, 17, 18], [], [22, 23, 24], [25, 26, 27, 28, 29, 30], [7], [5, 6, 31, 32, 33, 34, 35, 36, 37, 38, 39, 40, 41, 42], [5, 6, 31, 43], [19, 20, 21, 22, 44, 45, 46, 47, 48], [49, 50, 51], [], [55, 56, 57, 58], [9, 59, 60, 61, 62, 63, 64, 65, 66, 67, 68, 69, 70, 71, 72, 73, 74], [8, 75, 76, 77, 78, 79, 80], [81], [0, 52, 53, 54, 55, 82, 83, 84]] Tryz.f209 = some F } := ⟨F_gregory_count_had, by kernel_rfl⟩
theorem c209 : Cert 209 T209.1 := cert_of T209.2 Tryz.func209
-- (*suffrage/gregory.count).round$1
noncomputable def T210 : { F : AFunc // CT.func [[3], [0, 1, 4, 5, 6, 7]] Tryz.f210 = some F } := by
  refine ⟨?F, ?h⟩
  case h =>
    conv => lhs; cbv
theorem c210 : Cert 210 T210.1 := cert_of T210.2 Tryz.func210
-- (*suffrage/gregory.count).in
def R_gregory_count_in_0 : AC := .ops false [⟨some 2, .mov (.c (.lst 0 [] (some 0))), none, []⟩] []
def R_gregory_count_in_1 : AC := .ops false [⟨some 5, .mov (.t 0), none, []⟩,
  ⟨some 6, .nilchk (.t 5), none, []⟩,
  ⟨some 7, .fa (.t 6) 2, none, []⟩,
  ⟨some 8, .load 1 true (.t 7), none, []⟩,
  ⟨some 9, .len (.t 8), none, []⟩,
  ⟨some 10, .mov (.c (.int .i64 0)), none, []⟩] [0, 5, 6, 7]
def R_gregory_count_in_2 : AC := .ops false [⟨some 11, .bin .lss (.t 10) (.t 9), none, []⟩] []
def R_gregory_count_in_3 : AC := .ops false [⟨some 12, .mov (.t 10), none, []⟩,
  ⟨some 13, .ia 1 (.t 8) (.t 10), none, []⟩,
  ⟨some 14, .load 1 true (.t 13), none, []⟩,
  ⟨some 3, .mov (.t 12), none, []⟩,
  ⟨some 4, .mov (.t 14), none, []⟩] [11, 12, 13, 14]
def R_gregory_count_in_4 : AC := .ops false [⟨some 15, .mov (.t 4), none, []⟩,
  ⟨some 16, .call (.meth (.t 15) [(241, 211), (250, 346), (306, 348)]) [], none, []⟩] [4, 15]
def R_gregory_count_in_5 : AC := .ops false [⟨some 17, .mov (.t 2), none, []⟩,
  ⟨some 18, .mov (.t 3), none, []⟩,
  ⟨some 19, .bslice 1 [.int .i64 0] 1 [(0, .t 18)], none, []⟩,
  ⟨some 20, .append 1 8 (.t 17) (.t 19), none, []⟩,
  ⟨some 2, .mov (.t 20), none, []⟩] [3, 16, 17, 18, 19, 20]
def R_gregory_count_in_6 : AC := .ops false [⟨some 21, .bin .add (.t 10) (.c (.int .i64 1)), none, []⟩,
  ⟨some 10, .mov (.t 21), none, []⟩] [3, 16, 21]
def L_gregory_count_in_1 : AC := (.seq R_gregory_count_in_2 (.seq (.cond (.t 11) .skip (.exit 0)) (.seq (.block 1 (.seq R_gregory_count_in_3 (.seq R_gregory_count_in_4 (.cond (.t 16) R_gregory_count_in_5 .skip)))) R_gregory_count_in_6)))
def R_gregory_count_in_7 : AC := .ops false [⟨some 22, .mov (.t 2), none, []⟩,
  ⟨some 2, .mov (.t 22), none, []⟩] [8, 9, 10, 11, 22]
def F_gregory_count_in : AFunc := { ntmps := 23, nargs := 1, kills := [[], [0, 5, 6, 7], [], [11, 12, 13, 14], [4, 15], [3, 16, 17, 18, 19, 20], [3, 16, 21], [8, 9, 10, 11, 22]], results := [.t 2], body := (.seq R_gregory_count_in_0 (.seq (.seq R_gregory_count_in_1 (.block 0 (.loop L_gregory_count_in_1))) (.seq R_gregory_count_in_7 .ret))) }
noncomputable def T211 : { F : AFunc // CT.func [[], [0, 5, 6, 7], [], [11, 12, 13, 14], [4, 15], [3, 16, 17, 18, 19, 20], [3, 16, 21], [8, 9, 10, 11, 22]] Tryz.f211 = some F } := ⟨F_gregory_count_in, by kernel_rfl⟩
theorem c211 : Cert 211 T211.1 := cert_of T211.2 Tryz.func211
end Go.Proofs.YtmkaekblmbjhpaaGreat
