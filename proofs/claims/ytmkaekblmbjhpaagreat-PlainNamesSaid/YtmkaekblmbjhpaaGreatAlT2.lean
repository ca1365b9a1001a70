/- The functions in the abstract language, worked out by Lean. -/
import Derived.Test.YtmkaekblmbjhpaaGreatAlX
set_option linter.unusedVariables false
set_option maxHeartbeats 1000000
set_option maxRecDepth 100000
namespace Go.Proofs.YtmkaekblmbjhpaaGreat
-- suffrage/contest.fits
noncomputable def T35 : { F : AFunc // CT.func [[0, 2], [3, 4, 5, 6, 7, 8, 9], [1, 10], [10, 11, 12, 13], [16], [1, 14, 15, 17, 18, 19], [15, 21], [1, 14, 20, 22, 23, 24, 25, 26, 27], [1, 14, 20, 29], [28], [28]] Tryz.f35 = some F } := by
  refine ⟨?F, ?h⟩
  case h =>
    conv => lhs; cbv
theorem c35 : Cert 35 T35.1 := cert_of T35.2 Tryz.func35
-- suffrage/contest.of
noncomputable def T36 : { F : AFunc // CT.func [[], [4], [5, 6], [0, 3, 7, 8, 9, 10], [0, 3, 7, 11]] Tryz.f36 = some F } := by
  refine ⟨?F, ?h⟩
  case h =>
    conv => lhs; cbv
theorem c36 : Cert 36 T36.1 := cert_of T36.2 Tryz.func36
-- suffrage/profile.New
noncomputable def T37 : { F : AFunc // CT.func [[5], [6, 7, 8, 9, 10, 11, 12, 13, 14, 15, 16, 17, 18], [0, 1, 19, 20], [0, 1, 19, 21, 22, 23]] Tryz.f37 = some F } := by
  refine ⟨?F, ?h⟩
  case h =>
    conv => lhs; cbv
theorem c37 : Cert 37 T37.1 := cert_of T37.2 Tryz.func37
-- suffrage/profile.Add
noncomputable def T38 : { F : AFunc // CT.func [[0, 1, 7], [9, 10, 11, 12], [13], [2, 3, 4, 8, 14, 15, 16], [8, 14, 17, 18], [2, 4, 19, 20, 21, 22, 23], [3, 24, 25, 26, 27]] Tryz.f38 = some F } := by
  refine ⟨?F, ?h⟩
  case h =>
    conv => lhs; cbv
theorem c38 : Cert 38 T38.1 := cert_of T38.2 Tryz.func38
-- suffrage/profile.Check
noncomputable def T39 : { F : AFunc // CT.func [[0, 2], [8, 9, 10], [1, 11], [11], [4, 12, 13, 14, 15], [1, 6, 16, 17, 18, 19, 20, 21, 22, 23], [5, 7, 25, 26, 27, 28, 29, 30], [3, 24], [3, 24, 32, 33], [31], [31]] Tryz.f39 = some F } := by
  refine ⟨?F, ?h⟩
  case h =>
    conv => lhs; cbv
theorem c39 : Cert 39 T39.1 := cert_of T39.2 Tryz.func39
-- suffrage/count.rules
noncomputable def T40 : { F : AFunc // CT.func [[0], [1, 2, 3, 4, 5, 6, 7, 8, 9, 10, 11, 12, 13, 14, 15, 16, 17, 18]] Tryz.f40 = some F } := by
  refine ⟨?F, ?h⟩
  case h =>
    conv => lhs; cbv
theorem c40 : Cert 40 T40.1 := cert_of T40.2 Tryz.func40
-- suffrage/nat.Gcd
noncomputable def T41 : { F : AFunc // CT.func [[4, 5], [9, 10, 11], [12], [0, 1, 6, 13, 14], [6, 13, 15, 16], [17, 18], [0, 7, 19, 20, 21, 22, 23, 24, 25], [8, 26, 27], [0, 1, 19, 28, 29]] Tryz.f41 = some F } := by
  refine ⟨?F, ?h⟩
  case h =>
    conv => lhs; cbv
theorem c41 : Cert 41 T41.1 := cert_of T41.2 Tryz.func41
-- suffrage/nat.Div
noncomputable def T42 : { F : AFunc // CT.func [[4, 5, 6], [7, 8, 9], [10], [0, 1, 11, 12], [6, 11, 13, 14], [0, 1, 15], [0, 1, 15, 16, 17, 18, 19, 20, 21], [22, 23]] Tryz.f42 = some F } := by
  refine ⟨?F, ?h⟩
  case h =>
    conv => lhs; cbv
theorem c42 : Cert 42 T42.1 := cert_of T42.2 Tryz.func42
-- suffrage/nat.trim
noncomputable def T43 : { F : AFunc // CT.func [[2], [4, 5], [6, 7, 8, 9, 10, 11, 12, 13, 14], [15, 16, 17], [0, 3, 15, 18, 19, 20, 21]] Tryz.f43 = some F } := by
  refine ⟨?F, ?h⟩
  case h =>
    conv => lhs; cbv
theorem c43 : Cert 43 T43.1 := cert_of T43.2 Tryz.func43
-- suffrage/election.part
noncomputable def T44 : { F : AFunc // CT.func [[0, 2], [1, 3, 4, 5, 6, 7, 8, 9, 10, 11, 12, 13, 14, 15, 16, 17, 18, 19, 20]] Tryz.f44 = some F } := by
  refine ⟨?F, ?h⟩
  case h =>
    conv => lhs; cbv
theorem c44 : Cert 44 T44.1 := cert_of T44.2 Tryz.func44
-- suffrage/ratio.Cmp
def R_ratio_Cmp_0 : AC := .ops false [⟨some 2, .box (.t 0), none, []⟩,
  ⟨some 3, .box (.t 1), none, []⟩,
  ⟨some 4, .mov (.c (.int .i64 0)), none, []⟩,
  ⟨some 5, .mov (.c (.int .i64 0)), none, []⟩] [0, 1, 4, 5]
def R_ratio_Cmp_1 : AC := .ops false [⟨some 14, .load 3 false (.t 2), none, []⟩,
  ⟨some 15, .call (.fn 90) [.t 14], none, []⟩,
  ⟨some 16, .bin .neq (.t 15) (.c (.int .i64 0)), none, []⟩,
  ⟨some 17, .mov (.t 16), none, []⟩,
  ⟨some 18, .load 3 false (.t 3), some (17, false), []⟩,
  ⟨some 19, .call (.fn 90) [.t 18], some (17, false), []⟩,
  ⟨some 20, .bin .neq (.t 19) (.c (.int .i64 0)), some (17, false), []⟩,
  ⟨some 21, .pick (.t 17) (.c (.bool true)) (.t 20), none, []⟩] [14, 15, 16, 17, 18, 19, 20]
def R_ratio_Cmp_2 : AC := .ops false [⟨some 4, .mov (.c (.int .i64 0)), none, []⟩,
  ⟨some 5, .mov (.c (.int .i64 8)), none, []⟩] [2, 3, 21]
def R_ratio_Cmp_3 : AC := .ops true [⟨some 22, .load 3 false (.t 2), none, []⟩,
  ⟨some 23, .load 3 false (.t 3), none, []⟩,
  ⟨some 24, .build [.bool false, .lst 0 [] (some 0), .lst 0 [] (some 0), .bool false, .lst 0 [] (some 0), .lst 0 [] (some 0)] [(0, 3, .t 22), (3, 3, .t 23)], none, [0, 1]⟩,
  ⟨some 25, .load 3 false (.t 2), none, []⟩,
  ⟨some 26, .call (.fn 91) [.t 25], none, [3]⟩,
  ⟨some 27, .load 3 false (.t 3), none, []⟩,
  ⟨some 28, .call (.fn 91) [.t 27], none, [5, 4]⟩,
  ⟨some 6, .alloc [.bool false, .lst 0 [] (some 0), .lst 0 [] (some 0), .bool false, .lst 0 [] (some 0), .lst 0 [] (some 0)], none, []⟩,
  ⟨none, .store 6 (.t 6) (.t 24), none, [7, 2, 6, 0, 1, 2, 7]⟩,
  ⟨some 7, .mov (.t 26), none, [4, 8, 0, 1, 2, 3, 4, 7, 8]⟩,
  ⟨some 8, .mov (.t 28), none, [6, 9, 0, 1, 2, 3, 4, 5, 6, 7, 8, 9]⟩] [2, 3, 21, 22, 23, 24, 25, 26, 27, 28]
def R_ratio_Cmp_4 : AC := .ops false [⟨some 29, .mov (.t 7), none, []⟩,
  ⟨some 30, .mov (.t 8), none, []⟩,
  ⟨some 31, .bin .neq (.t 29) (.t 30), none, []⟩,
  ⟨some 32, .mov (.t 31), none, []⟩,
  ⟨some 33, .mov (.t 7), some (32, false), []⟩,
  ⟨some 34, .bin .eql (.t 33) (.c (.int .i64 0)), some (32, false), []⟩,
  ⟨some 35, .pick (.t 32) (.c (.bool true)) (.t 34), none, []⟩] [29, 30, 31, 32, 33, 34]
def R_ratio_Cmp_5 : AC := .ops false [⟨some 36, .mov (.t 7), none, []⟩,
  ⟨some 37, .mov (.t 8), none, []⟩,
  ⟨some 38, .bin .sub (.t 36) (.t 37), none, []⟩,
  ⟨some 39, .min [.c (.int .i64 1), .t 38], none, []⟩,
  ⟨some 40, .max [.c (.int .i64 (-1)), .t 39], none, []⟩,
  ⟨some 4, .mov (.t 40), none, []⟩,
  ⟨some 5, .mov (.c (.int .i64 0)), none, []⟩] [6, 7, 8, 35, 36, 37, 38, 39, 40]
def R_ratio_Cmp_6 : AC := .ops false [⟨some 42, .load 6 false (.t 6), none, []⟩,
  ⟨some 43, .call (.fn 92) [.t 42], none, []⟩,
  ⟨some 41, .mov (.t 43), none, []⟩,
  ⟨some 44, .ext (.t 41) 0, none, []⟩,
  ⟨some 45, .ext (.t 41) 1, none, []⟩,
  ⟨some 46, .ext (.t 41) 2, none, []⟩,
  ⟨some 9, .mov (.t 44), none, []⟩,
  ⟨some 10, .mov (.t 45), none, []⟩,
  ⟨some 11, .mov (.t 46), none, []⟩] [6, 8, 35, 41, 42, 43, 44, 45, 46]
def R_ratio_Cmp_7 : AC := .ops false [⟨some 47, .mov (.t 11), none, []⟩,
  ⟨some 48, .bin .neq (.t 47) (.c (.int .i64 0)), none, []⟩] [47]
def R_ratio_Cmp_8 : AC := .ops false [⟨some 49, .mov (.t 11), none, []⟩,
  ⟨some 4, .mov (.c (.int .i64 0)), none, []⟩,
  ⟨some 5, .mov (.t 49), none, []⟩] [7, 9, 10, 11, 48, 49]
def R_ratio_Cmp_9 : AC := .ops false [⟨some 51, .mov (.t 9), none, []⟩,
  ⟨some 52, .mov (.t 10), none, []⟩,
  ⟨some 53, .call (.fn 93) [.t 51, .t 52], none, []⟩,
  ⟨some 50, .mov (.t 53), none, []⟩,
  ⟨some 54, .ext (.t 50) 0, none, []⟩,
  ⟨some 55, .ext (.t 50) 1, none, []⟩,
  ⟨some 12, .mov (.t 54), none, []⟩,
  ⟨some 13, .mov (.t 55), none, []⟩] [9, 10, 11, 13, 48, 50, 51, 52, 53, 54, 55]
def R_ratio_Cmp_10 : AC := .ops false [⟨some 56, .mov (.t 7), none, []⟩,
  ⟨some 57, .mov (.t 12), none, []⟩,
  ⟨some 58, .bin .mul (.t 56) (.t 57), none, []⟩,
  ⟨some 4, .mov (.t 58), none, []⟩,
  ⟨some 5, .mov (.c (.int .i64 0)), none, []⟩] [7, 12, 56, 57, 58]
def F_ratio_Cmp : AFunc := { ntmps := 59, nargs := 2, kills := [[0, 1, 4, 5], [14, 15, 16, 17, 18, 19, 20], [2, 3, 21], [2, 3, 21, 22, 23, 24, 25, 26, 27, 28], [29, 30, 31, 32, 33, 34], [6, 7, 8, 35, 36, 37, 38, 39, 40], [6, 8, 35, 41, 42, 43, 44, 45, 46], [47], [7, 9, 10, 11, 48, 49], [9, 10, 11, 13, 48, 50, 51, 52, 53, 54, 55], [7, 12, 56, 57, 58]], results := [.t 4, .t 5], body := (.seq R_ratio_Cmp_0 (.seq (.seq R_ratio_Cmp_1 (.cond (.t 21) (.seq R_ratio_Cmp_2 .ret) .skip)) (.seq R_ratio_Cmp_3 (.seq (.seq R_ratio_Cmp_4 (.cond (.t 35) (.seq R_ratio_Cmp_5 .ret) .skip)) (.seq R_ratio_Cmp_6 (.seq (.seq R_ratio_Cmp_7 (.cond (.t 48) (.seq R_ratio_Cmp_8 .ret) .skip)) (.seq R_ratio_Cmp_9 (.seq R_ratio_Cmp_10 .ret)))))))) }
noncomputable def T45 : { F : AFunc // CT.func [[0, 1, 4, 5], [14, 15, 16, 17, 18, 19, 20], [2, 3, 21], [2, 3, 21, 22, 23, 24, 25, 26, 27, 28], [29, 30, 31, 32, 33, 34], [6, 7, 8, 35, 36, 37, 38, 39, 40], [6, 8, 35, 41, 42, 43, 44, 45, 46], [47], [7, 9, 10, 11, 48, 49], [9, 10, 11, 13, 48, 50, 51, 52, 53, 54, 55], [7, 12, 56, 57, 58]] Tryz.f45 = some F } := ⟨F_ratio_Cmp, by kernel_rfl⟩
theorem c45 : Cert 45 T45.1 := cert_of T45.2 Tryz.func45
-- suffrage/election.terms$1
noncomputable def T46 : { F : AFunc // CT.func [[2], [0, 3, 4, 5, 6, 7, 8]] Tryz.f46 = some F } := by
  refine ⟨?F, ?h⟩
  case h =>
    conv => lhs; cbv
theorem c46 : Cert 46 T46.1 := cert_of T46.2 Tryz.func46
-- slices.ContainsFunc[[]int,int]
noncomputable def T47 : { F : AFunc // CT.func [[4], [0, 1, 5, 6, 7, 8]] Tryz.f47 = some F } := by
  refine ⟨?F, ?h⟩
  case h =>
    conv => lhs; cbv
theorem c47 : Cert 47 T47.1 := cert_of T47.2 Tryz.func47
-- suffrage/contest.Twin
noncomputable def T48 : { F : AFunc // CT.func [[0], [3, 4, 5, 6], [1, 7]] Tryz.f48 = some F } := by
  refine ⟨?F, ?h⟩
  case h =>
    conv => lhs; cbv
theorem c48 : Cert 48 T48.1 := cert_of T48.2 Tryz.func48
-- suffrage/ratio.Twin
noncomputable def T49 : { F : AFunc // CT.func [[0], [1, 3, 4, 5, 6, 7, 8, 9, 10, 11]] Tryz.f49 = some F } := by
  refine ⟨?F, ?h⟩
  case h =>
    conv => lhs; cbv
theorem c49 : Cert 49 T49.1 := cert_of T49.2 Tryz.func49
-- slices.Clone[[]suffrage/api.Voter,suffrage/api.Voter]
noncomputable def T50 : { F : AFunc // CT.func [[2], [3], [0, 4], [0, 4, 5, 6, 7]] Tryz.f50 = some F } := by
  refine ⟨?F, ?h⟩
  case h =>
    conv => lhs; cbv
theorem c50 : Cert 50 T50.1 := cert_of T50.2 Tryz.func50
end Go.Proofs.YtmkaekblmbjhpaaGreat
