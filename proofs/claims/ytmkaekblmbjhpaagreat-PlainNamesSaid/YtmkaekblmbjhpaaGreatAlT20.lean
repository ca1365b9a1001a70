/- The functions in the abstract language, worked out by Lean. -/
import Derived.Test.YtmkaekblmbjhpaaGreatAlX
set_option linter.unusedVariables false
set_option maxHeartbeats 1000000
set_option maxRecDepth 100000
namespace Go.Proofs.YtmkaekblmbjhpaaGreat
-- (suffrage/coombs.most).out
noncomputable def T341 : { F : AFunc // CT.func [[0, 4], [2, 6, 7, 8, 9], [1, 5, 10, 11, 12]] Tryz.f341 = some F } := by
  refine ⟨?F, ?h⟩
  case h =>
    conv => lhs; cbv
theorem c341 : Cert 341 T341.1 := cert_of T341.2 Tryz.func341
-- (suffrage/coombs.most).elects$1
noncomputable def T342 : { F : AFunc // CT.func [[3], [0, 1, 4, 5, 6, 7]] Tryz.f342 = some F } := by
  refine ⟨?F, ?h⟩
  case h =>
    conv => lhs; cbv
theorem c342 : Cert 342 T342.1 := cert_of T342.2 Tryz.func342
-- suffrage/coombs.against
def R_coombs_against_0 : AC := .ops false [⟨some 2, .box (.t 0), none, []⟩,
  ⟨some 4, .mov (.c (.lst 0 [] (some 0))), none, []⟩] [0, 4]
def R_coombs_against_1 : AC := .ops false [⟨some 13, .fa (.t 2) 0, none, []⟩,
  ⟨some 14, .load 1 true (.t 13), none, []⟩,
  ⟨some 15, .mkslice 1 8 [.int .i64 0] (.t 14) (.t 14), none, []⟩,
  ⟨some 5, .mov (.t 15), none, []⟩] [13, 14, 15]
def R_coombs_against_2 : AC := .ops false [⟨some 16, .fa (.t 2) 2, none, []⟩,
  ⟨some 17, .load 1 true (.t 16), none, []⟩,
  ⟨some 18, .len (.t 17), none, []⟩,
  ⟨some 19, .mov (.c (.int .i64 0)), none, []⟩] [2, 16]
def R_coombs_against_3 : AC := .ops false [⟨some 20, .bin .lss (.t 19) (.t 18), none, []⟩] []
def R_coombs_against_4 : AC := .ops false [⟨some 21, .ia 2 (.t 17) (.t 19), none, []⟩,
  ⟨some 22, .load 2 false (.t 21), none, []⟩,
  ⟨some 7, .alloc [.lst 0 [] (some 0), .int .i64 0], none, []⟩,
  ⟨none, .store 2 (.t 7) (.t 22), none, []⟩] [20, 21, 22]
def R_coombs_against_5 : AC := .ops false [⟨some 8, .mov (.c (.int .i64 (-1))), none, []⟩,
  ⟨some 9, .mov (.c (.bool false)), none, []⟩] []
def R_coombs_against_6 : AC := .ops false [⟨some 23, .mov (.t 1), none, []⟩,
  ⟨some 24, .len (.t 23), none, []⟩,
  ⟨some 25, .mov (.c (.int .i64 0)), none, []⟩] []
def R_coombs_against_7 : AC := .ops false [⟨some 26, .bin .lss (.t 25) (.t 24), none, []⟩] []
def R_coombs_against_8 : AC := .ops false [⟨some 27, .ia 1 (.t 23) (.t 25), none, []⟩,
  ⟨some 28, .load 1 true (.t 27), none, []⟩,
  ⟨some 11, .mov (.t 28), none, []⟩] [26, 27, 28]
def R_coombs_against_9 : AC := .ops false [⟨some 29, .fa (.t 7) 0, none, []⟩,
  ⟨some 30, .load 1 true (.t 29), none, []⟩,
  ⟨some 31, .mov (.t 11), none, []⟩,
  ⟨some 32, .call (.fn 258) [.t 30, .t 31], none, []⟩,
  ⟨some 12, .mov (.t 32), none, []⟩] [29, 30, 31, 32]
def R_coombs_against_10 : AC := .ops false [⟨some 33, .mov (.t 8), none, []⟩,
  ⟨some 34, .mov (.t 12), none, []⟩,
  ⟨some 35, .max [.t 33, .t 34], none, []⟩,
  ⟨some 8, .mov (.t 35), none, []⟩] [33, 34, 35]
def R_coombs_against_11 : AC := .ops false [⟨some 36, .mov (.t 12), none, []⟩,
  ⟨some 37, .bin .lss (.t 36) (.c (.int .i64 0)), none, []⟩] [12, 36]
def R_coombs_against_12 : AC := .ops true [⟨some 38, .mov (.t 5), none, []⟩,
  ⟨some 39, .mov (.t 11), none, []⟩,
  ⟨some 40, .ia 1 (.t 38) (.t 39), none, [0, 1]⟩,
  ⟨some 41, .load 1 true (.t 40), none, [2]⟩,
  ⟨some 42, .fa (.t 7) 1, none, []⟩,
  ⟨some 43, .load 1 true (.t 42), none, [4]⟩,
  ⟨some 44, .bin .add (.t 41) (.t 43), none, [3, 5]⟩,
  ⟨some 45, .ia 1 (.t 38) (.t 39), none, [0, 1, 0, 1, 2, 3, 4, 5, 6]⟩,
  ⟨none, .store 1 (.t 45) (.t 44), none, [7, 6, 0, 1, 2, 3, 4, 5, 6]⟩] [9, 11, 37, 38, 39, 40, 41, 42, 43, 44, 45]
def R_coombs_against_13 : AC := .ops false [⟨some 9, .mov (.c (.bool true)), none, []⟩] []
def R_coombs_against_14 : AC := .ops false [⟨some 46, .bin .add (.t 25) (.c (.int .i64 1)), none, []⟩,
  ⟨some 25, .mov (.t 46), none, []⟩] [11, 37, 46]
def L_coombs_against_1 : AC := (.seq R_coombs_against_7 (.seq (.cond (.t 26) .skip (.exit 2)) (.seq (.block 3 (.seq R_coombs_against_8 (.seq R_coombs_against_9 (.seq R_coombs_against_10 (.seq R_coombs_against_11 (.cond (.t 37) (.seq R_coombs_against_12 R_coombs_against_13) .skip)))))) R_coombs_against_14)))
def R_coombs_against_15 : AC := .ops false [⟨some 47, .mov (.t 9), none, []⟩,
  ⟨some 48, .un .not (.t 47), none, []⟩,
  ⟨some 49, .mov (.t 48), none, []⟩,
  ⟨some 50, .mov (.t 8), some (49, true), []⟩,
  ⟨some 51, .bin .geq (.t 50) (.c (.int .i64 0)), some (49, true), []⟩,
  ⟨some 52, .pick (.t 49) (.t 51) (.c (.bool false)), none, []⟩] [9, 23, 24, 25, 26, 47, 48, 49, 50, 51]
def R_coombs_against_16 : AC := .ops true [⟨some 53, .mov (.t 5), none, []⟩,
  ⟨some 54, .fa (.t 7) 0, none, []⟩,
  ⟨some 55, .load 1 true (.t 54), none, [1]⟩,
  ⟨some 56, .mov (.t 8), none, []⟩,
  ⟨some 57, .ia 1 (.t 55) (.t 56), none, [2, 3]⟩,
  ⟨some 58, .load 1 true (.t 57), none, [4]⟩,
  ⟨some 59, .ia 1 (.t 53) (.t 58), none, [0, 5]⟩,
  ⟨some 60, .load 1 true (.t 59), none, [6]⟩,
  ⟨some 61, .fa (.t 7) 1, none, []⟩,
  ⟨some 62, .load 1 true (.t 61), none, [8]⟩,
  ⟨some 63, .bin .add (.t 60) (.t 62), none, [7, 9]⟩,
  ⟨some 64, .ia 1 (.t 53) (.t 58), none, [0, 5, 0, 1, 2, 3, 4, 5, 6, 7, 8, 9, 10]⟩,
  ⟨none, .store 1 (.t 64) (.t 63), none, [11, 10, 0, 1, 2, 3, 4, 5, 6, 7, 8, 9, 10]⟩] [7, 8, 52, 53, 54, 55, 56, 57, 58, 59, 60, 61, 62, 63, 64]
def R_coombs_against_17 : AC := .ops false [⟨some 65, .bin .add (.t 19) (.c (.int .i64 1)), none, []⟩,
  ⟨some 19, .mov (.t 65), none, []⟩] [7, 8, 52, 65]
def L_coombs_against_2 : AC := (.seq R_coombs_against_3 (.seq (.cond (.t 20) .skip (.exit 0)) (.seq (.block 1 (.seq R_coombs_against_4 (.seq R_coombs_against_5 (.seq (.seq R_coombs_against_6 (.block 2 (.loop L_coombs_against_1))) (.seq R_coombs_against_15 (.cond (.t 52) R_coombs_against_16 .skip)))))) R_coombs_against_17)))
def R_coombs_against_18 : AC := .ops false [⟨some 66, .mov (.t 5), none, []⟩,
  ⟨some 4, .mov (.t 66), none, []⟩] [1, 5, 17, 18, 19, 20, 66]
def F_coombs_against : AFunc := { ntmps := 67, nargs := 2, kills := [[0, 4], [13, 14, 15], [2, 16], [], [20, 21, 22], [], [], [], [26, 27, 28], [29, 30, 31, 32], [33, 34, 35], [12, 36], [9, 11, 37, 38, 39, 40, 41, 42, 43, 44, 45], [], [11, 37, 46], [9, 23, 24, 25, 26, 47, 48, 49, 50, 51], [7, 8, 52, 53, 54, 55, 56, 57, 58, 59, 60, 61, 62, 63, 64], [7, 8, 52, 65], [1, 5, 17, 18, 19, 20, 66]], results := [.t 4], body := (.seq R_coombs_against_0 (.seq R_coombs_against_1 (.seq (.seq R_coombs_against_2 (.block 0 (.loop L_coombs_against_2))) (.seq R_coombs_against_18 .ret)))) }
noncomputable def T343 : { F : AFunc // CT.func [[0, 4], [13, 14, 15], [2, 16], [], [20, 21, 22], [], [], [], [26, 27, 28], [29, 30, 31, 32], [33, 34, 35], [12, 36], [9, 11, 37, 38, 39, 40, 41, 42, 43, 44, 45], [], [11, 37, 46], [9, 23, 24, 25, 26, 47, 48, 49, 50, 51], [7, 8, 52, 53, 54, 55, 56, 57, 58, 59, 60, 61, 62, 63, 64], [7, 8, 52, 65], [1, 5, 17, 18, 19, 20, 66]] Tryz.f343 = some F } := ⟨F_coombs_against, by kernel_rfl⟩
theorem c343 : Cert 343 T343.1 := cert_of T343.2 Tryz.func343
-- (suffrage/coombs.most).out$1
noncomputable def T344 : { F : AFunc // CT.func [[3], [0, 1, 4, 5, 6, 7]] Tryz.f344 = some F } := by
  refine ⟨?F, ?h⟩
  case h =>
    conv => lhs; cbv
theorem c344 : Cert 344 T344.1 := cert_of T344.2 Tryz.func344
-- (suffrage/gregory.hopeful).has
noncomputable def T345 : { F : AFunc // CT.func [[0, 2, 3, 6], [1, 7]] Tryz.f345 = some F } := by
  refine ⟨?F, ?h⟩
  case h =>
    conv => lhs; cbv
theorem c345 : Cert 345 T345.1 := cert_of T345.2 Tryz.func345
-- (suffrage/gregory.hopeful).in
noncomputable def T346 : { F : AFunc // CT.func [[0, 1, 2], []] Tryz.f346 = some F } := by
  refine ⟨?F, ?h⟩
  case h =>
    conv => lhs; cbv
theorem c346 : Cert 346 T346.1 := cert_of T346.2 Tryz.func346
-- (suffrage/gregory.done).has
noncomputable def T347 : { F : AFunc // CT.func [[0, 1, 6], [3, 7], [2, 8, 9], [2, 8]] Tryz.f347 = some F } := by
  refine ⟨?F, ?h⟩
  case h =>
    conv => lhs; cbv
theorem c347 : Cert 347 T347.1 := cert_of T347.2 Tryz.func347
-- (suffrage/gregory.done).in
noncomputable def T348 : { F : AFunc // CT.func [[0, 1, 2], []] Tryz.f348 = some F } := by
  refine ⟨?F, ?h⟩
  case h =>
    conv => lhs; cbv
theorem c348 : Cert 348 T348.1 := cert_of T348.2 Tryz.func348
end Go.Proofs.YtmkaekblmbjhpaaGreat
