/- The functions in the abstract language, worked out by Lean. -/
import Derived.Test.YtmkaekblmbjhpaaGreatAlX
set_option linter.unusedVariables false
set_option maxHeartbeats 1000000
set_option maxRecDepth 100000
namespace Go.Proofs.YtmkaekblmbjhpaaGreat
-- slices.stableCmpFunc[suffrage/api.Link]
def R_slices_stableCmpFunc_0 : AC := .ops false [⟨some 6, .mov (.c (.int .i64 20)), none, []⟩] []
def R_slices_stableCmpFunc_1 : AC := .ops false [⟨some 10, .mov (.t 6), none, []⟩,
  ⟨some 7, .mov (.c (.int .i64 0)), none, []⟩,
  ⟨some 8, .mov (.t 10), none, []⟩] [10]
def R_slices_stableCmpFunc_2 : AC := .ops false [⟨some 11, .mov (.t 8), none, []⟩,
  ⟨some 12, .mov (.t 1), none, []⟩,
  ⟨some 13, .bin .leq (.t 11) (.t 12), none, []⟩] [11, 12]
def R_slices_stableCmpFunc_3 : AC := .ops false [⟨some 14, .mov (.t 0), none, []⟩,
  ⟨some 15, .mov (.t 7), none, []⟩,
  ⟨some 16, .mov (.t 8), none, []⟩,
  ⟨some 17, .mov (.t 2), none, []⟩,
  ⟨some 18, .call (.fn 309) [.t 14, .t 15, .t 16, .t 17], none, []⟩] [7, 13, 14, 15, 16, 17, 18]
def R_slices_stableCmpFunc_4 : AC := .ops false [⟨some 19, .mov (.t 8), none, []⟩,
  ⟨some 7, .mov (.t 19), none, []⟩] [19]
def R_slices_stableCmpFunc_5 : AC := .ops false [⟨some 20, .mov (.t 8), none, []⟩,
  ⟨some 21, .mov (.t 6), none, []⟩,
  ⟨some 22, .bin .add (.t 20) (.t 21), none, []⟩,
  ⟨some 8, .mov (.t 22), none, []⟩] [20, 21, 22]
def L_slices_stableCmpFunc_1 : AC := (.seq (.seq R_slices_stableCmpFunc_2 (.cond (.t 13) .skip (.exit 0))) (.block 1 (.seq R_slices_stableCmpFunc_3 (.seq R_slices_stableCmpFunc_4 R_slices_stableCmpFunc_5))))
def R_slices_stableCmpFunc_6 : AC := .ops false [⟨some 23, .mov (.t 0), none, []⟩,
  ⟨some 24, .mov (.t 7), none, []⟩,
  ⟨some 25, .mov (.t 1), none, []⟩,
  ⟨some 26, .mov (.t 2), none, []⟩,
  ⟨some 27, .call (.fn 309) [.t 23, .t 24, .t 25, .t 26], none, []⟩] [7, 8, 13, 23, 24, 25, 26, 27]
def R_slices_stableCmpFunc_7 : AC := .ops false [⟨some 28, .mov (.t 6), none, []⟩,
  ⟨some 29, .mov (.t 1), none, []⟩,
  ⟨some 30, .bin .lss (.t 28) (.t 29), none, []⟩] [28, 29]
def R_slices_stableCmpFunc_8 : AC := .ops false [⟨some 31, .mov (.t 6), none, []⟩,
  ⟨some 32, .bin .mul (.c (.int .i64 2)) (.t 31), none, []⟩,
  ⟨some 7, .mov (.c (.int .i64 0)), none, []⟩,
  ⟨some 8, .mov (.t 32), none, []⟩] [30, 31, 32]
def R_slices_stableCmpFunc_9 : AC := .ops false [⟨some 33, .mov (.t 8), none, []⟩,
  ⟨some 34, .mov (.t 1), none, []⟩,
  ⟨some 35, .bin .leq (.t 33) (.t 34), none, []⟩] [33, 34]
def R_slices_stableCmpFunc_10 : AC := .ops false [⟨some 36, .mov (.t 0), none, []⟩,
  ⟨some 37, .mov (.t 7), none, []⟩,
  ⟨some 38, .mov (.t 7), none, []⟩,
  ⟨some 39, .mov (.t 6), none, []⟩,
  ⟨some 40, .bin .add (.t 38) (.t 39), none, []⟩,
  ⟨some 41, .mov (.t 8), none, []⟩,
  ⟨some 42, .mov (.t 2), none, []⟩,
  ⟨some 43, .call (.fn 310) [.t 36, .t 37, .t 40, .t 41, .t 42], none, []⟩] [7, 35, 36, 37, 38, 39, 40, 41, 42, 43]
def R_slices_stableCmpFunc_11 : AC := .ops false [⟨some 44, .mov (.t 8), none, []⟩,
  ⟨some 7, .mov (.t 44), none, []⟩] [44]
def R_slices_stableCmpFunc_12 : AC := .ops false [⟨some 45, .mov (.t 8), none, []⟩,
  ⟨some 46, .mov (.t 6), none, []⟩,
  ⟨some 47, .bin .mul (.c (.int .i64 2)) (.t 46), none, []⟩,
  ⟨some 48, .bin .add (.t 45) (.t 47), none, []⟩,
  ⟨some 8, .mov (.t 48), none, []⟩] [45, 46, 47, 48]
def L_slices_stableCmpFunc_2 : AC := (.seq (.seq R_slices_stableCmpFunc_9 (.cond (.t 35) .skip (.exit 4))) (.block 5 (.seq R_slices_stableCmpFunc_10 (.seq R_slices_stableCmpFunc_11 R_slices_stableCmpFunc_12))))
def R_slices_stableCmpFunc_13 : AC := .ops false [⟨some 49, .mov (.t 7), none, []⟩,
  ⟨some 50, .mov (.t 6), none, []⟩,
  ⟨some 51, .bin .add (.t 49) (.t 50), none, []⟩,
  ⟨some 9, .mov (.t 51), none, []⟩] [8, 35, 49, 50, 51]
def R_slices_stableCmpFunc_14 : AC := .ops false [⟨some 52, .mov (.t 9), none, []⟩,
  ⟨some 53, .mov (.t 1), none, []⟩,
  ⟨some 54, .bin .lss (.t 52) (.t 53), none, []⟩] [52, 53]
def R_slices_stableCmpFunc_15 : AC := .ops false [⟨some 55, .mov (.t 0), none, []⟩,
  ⟨some 56, .mov (.t 7), none, []⟩,
  ⟨some 57, .mov (.t 9), none, []⟩,
  ⟨some 58, .mov (.t 1), none, []⟩,
  ⟨some 59, .mov (.t 2), none, []⟩,
  ⟨some 60, .call (.fn 310) [.t 55, .t 56, .t 57, .t 58, .t 59], none, []⟩] [7, 9, 54, 55, 56, 57, 58, 59, 60]
def R_slices_stableCmpFunc_16 : AC := .ops false [⟨some 61, .mov (.t 6), none, []⟩,
  ⟨some 62, .bin .mul (.t 61) (.c (.int .i64 2)), none, []⟩,
  ⟨some 6, .mov (.t 62), none, []⟩] [7, 9, 54, 61, 62]
def L_slices_stableCmpFunc_3 : AC := (.seq (.seq R_slices_stableCmpFunc_7 (.cond (.t 30) .skip (.exit 2))) (.block 3 (.seq R_slices_stableCmpFunc_8 (.seq (.block 4 (.loop L_slices_stableCmpFunc_2)) (.seq (.seq R_slices_stableCmpFunc_13 (.seq R_slices_stableCmpFunc_14 (.cond (.t 54) R_slices_stableCmpFunc_15 .skip))) R_slices_stableCmpFunc_16)))))
def F_slices_stableCmpFunc : AFunc := { ntmps := 63, nargs := 3, kills := [[], [10], [11, 12], [7, 13, 14, 15, 16, 17, 18], [19], [20, 21, 22], [7, 8, 13, 23, 24, 25, 26, 27], [28, 29], [30, 31, 32], [33, 34], [7, 35, 36, 37, 38, 39, 40, 41, 42, 43], [44], [45, 46, 47, 48], [8, 35, 49, 50, 51], [52, 53], [7, 9, 54, 55, 56, 57, 58, 59, 60], [7, 9, 54, 61, 62]], results := [], body := (.seq R_slices_stableCmpFunc_0 (.seq R_slices_stableCmpFunc_1 (.seq (.block 0 (.loop L_slices_stableCmpFunc_1)) (.seq R_slices_stableCmpFunc_6 (.block 2 (.loop L_slices_stableCmpFunc_3)))))) }
noncomputable def T292 : { F : AFunc // CT.func [[], [10], [11, 12], [7, 13, 14, 15, 16, 17, 18], [19], [20, 21, 22], [7, 8, 13, 23, 24, 25, 26, 27], [28, 29], [30, 31, 32], [33, 34], [7, 35, 36, 37, 38, 39, 40, 41, 42, 43], [44], [45, 46, 47, 48], [8, 35, 49, 50, 51], [52, 53], [7, 9, 54, 55, 56, 57, 58, 59, 60], [7, 9, 54, 61, 62]] Tryz.f292 = some F } := ⟨F_slices_stableCmpFunc, by kernel_rfl⟩
theorem c292 : Cert 292 T292.1 := cert_of T292.2 Tryz.func292
-- suffrage/quota.within
noncomputable def T293 : { F : AFunc // CT.func [[6], [0, 1, 2, 7, 8, 9, 10, 11, 12, 13, 14]] Tryz.f293 = some F } := by
  refine ⟨?F, ?h⟩
  case h =>
    conv => lhs; cbv
theorem c293 : Cert 293 T293.1 := cert_of T293.2 Tryz.func293
-- (*suffrage/gregory.count).next$1
def R_gregory_count_next_1_0 : AC := .ops false [⟨some 3, .mov (.c (.bool false)), none, []⟩] [3]
def R_gregory_count_next_1_1 : AC := .ops false [⟨some 4, .load 1 true (.t 1), none, []⟩,
  ⟨some 5, .nilchk (.t 4), none, []⟩,
  ⟨some 6, .fa (.t 5) 2, none, []⟩,
  ⟨some 7, .load 1 true (.t 6), none, []⟩,
  ⟨some 8, .mov (.t 0), none, []⟩,
  ⟨some 9, .ia 1 (.t 7) (.t 8), none, []⟩,
  ⟨some 10, .load 1 true (.t 9), none, []⟩,
  ⟨some 11, .call (.meth (.t 10) [(241, 211), (250, 346), (306, 348)]) [], none, []⟩,
  ⟨some 3, .mov (.t 11), none, []⟩] [0, 1, 4, 5, 6, 7, 8, 9, 10, 11]
def F_gregory_count_next_1 : AFunc := { ntmps := 12, nargs := 2, kills := [[3], [0, 1, 4, 5, 6, 7, 8, 9, 10, 11]], results := [.t 3], body := (.seq R_gregory_count_next_1_0 (.seq R_gregory_count_next_1_1 .ret)) }
noncomputable def T294 : { F : AFunc // CT.func [[3], [0, 1, 4, 5, 6, 7, 8, 9, 10, 11]] Tryz.f294 = some F } := ⟨F_gregory_count_next_1, by kernel_rfl⟩
theorem c294 : Cert 294 T294.1 := cert_of T294.2 Tryz.func294
-- suffrage/quota.product
noncomputable def T295 : { F : AFunc // CT.func [[6, 7, 8], [], [0, 1, 12, 13, 14, 15, 16, 17, 18, 19, 20, 21], [22, 23, 24, 25], [2, 9, 26], [2, 9, 26, 27, 28, 29, 30, 31, 32, 33, 34, 35, 36], [10, 11, 37, 38, 39, 40, 41, 42, 43]] Tryz.f295 = some F } := by
  refine ⟨?F, ?h⟩
  case h =>
    conv => lhs; cbv
theorem c295 : Cert 295 T295.1 := cert_of T295.2 Tryz.func295
-- suffrage/nat.Add
noncomputable def T296 : { F : AFunc // CT.func [[4, 5], [10, 11, 12], [13], [0, 1, 6, 14, 15], [6, 14, 16, 17, 18, 19, 20, 21, 22], [], [23], [], [26, 27], [9, 28, 29, 30, 31, 32, 33, 34, 35, 36, 37, 38, 39, 40, 41], [42], [0, 1, 7, 8, 24, 25, 26, 43, 44, 45, 46]] Tryz.f296 = some F } := by
  refine ⟨?F, ?h⟩
  case h =>
    conv => lhs; cbv
theorem c296 : Cert 296 T296.1 := cert_of T296.2 Tryz.func296
-- suffrage/nat.Sub
noncomputable def T297 : { F : AFunc // CT.func [[4, 5], [7, 8, 9], [10], [0, 1, 6, 11, 12], [6, 11, 13, 14, 15], [0, 1, 16], [0, 1, 16, 17, 18, 19]] Tryz.f297 = some F } := by
  refine ⟨?F, ?h⟩
  case h =>
    conv => lhs; cbv
theorem c297 : Cert 297 T297.1 := cert_of T297.2 Tryz.func297
-- slices.insertionSortOrdered[int]
noncomputable def T298 : { F : AFunc // CT.func [[8, 9], [10, 11], [7, 13, 14, 30], [12, 15], [16, 17, 18, 19, 20, 21, 22, 23, 24, 25, 26, 27, 28, 29], [31, 32], [30, 33, 34, 35, 36, 37, 38, 39, 40, 41, 42, 43, 44, 45, 46, 47, 48]] Tryz.f298 = some F } := by
  refine ⟨?F, ?h⟩
  case h =>
    conv => lhs; cbv
theorem c298 : Cert 298 T298.1 := cert_of T298.2 Tryz.func298
-- slices.heapSortOrdered[int]
def R_slices_heapSortOrdered_0 : AC := .ops false [⟨some 11, .mov (.t 1), none, []⟩,
  ⟨some 6, .mov (.t 11), none, []⟩] [11]
def R_slices_heapSortOrdered_1 : AC := .ops false [⟨some 7, .mov (.c (.int .i64 0)), none, []⟩] []
def R_slices_heapSortOrdered_2 : AC := .ops false [⟨some 12, .mov (.t 2), none, []⟩,
  ⟨some 13, .mov (.t 1), none, []⟩,
  ⟨some 14, .bin .sub (.t 12) (.t 13), none, []⟩,
  ⟨some 8, .mov (.t 14), none, []⟩] [1, 2, 12, 13, 14]
def R_slices_heapSortOrdered_3 : AC := .ops false [⟨some 15, .mov (.t 8), none, []⟩,
  ⟨some 16, .bin .sub (.t 15) (.c (.int .i64 1)), none, []⟩,
  ⟨some 17, .bin .quo (.t 16) (.c (.int .i64 2)), none, []⟩,
  ⟨some 9, .mov (.t 17), none, []⟩] [15, 16, 17]
def R_slices_heapSortOrdered_4 : AC := .ops false [⟨some 18, .mov (.t 9), none, []⟩,
  ⟨some 19, .bin .geq (.t 18) (.c (.int .i64 0)), none, []⟩] [18]
def R_slices_heapSortOrdered_6 : AC := .ops false [⟨some 22, .mov (.t 0), none, []⟩,
  ⟨some 23, .mov (.t 9), none, []⟩,
  ⟨some 24, .mov (.t 8), none, []⟩,
  ⟨some 25, .mov (.t 6), none, []⟩,
  ⟨some 26, .call (.fn 314) [.t 22, .t 23, .t 24, .t 25], none, []⟩] [19, 22, 23, 24, 25, 26]
def R_slices_heapSortOrdered_5 : AC := .ops false [⟨some 20, .mov (.t 9), none, []⟩,
  ⟨some 21, .bin .sub (.t 20) (.c (.int .i64 1)), none, []⟩,
  ⟨some 9, .mov (.t 21), none, []⟩] [20, 21]
def L_slices_heapSortOrdered_1 : AC := (.seq (.seq R_slices_heapSortOrdered_4 (.cond (.t 19) .skip (.exit 0))) (.seq (.block 1 R_slices_heapSortOrdered_6) R_slices_heapSortOrdered_5))
def R_slices_heapSortOrdered_7 : AC := .ops false [⟨some 27, .mov (.t 8), none, []⟩,
  ⟨some 28, .bin .sub (.t 27) (.c (.int .i64 1)), none, []⟩,
  ⟨some 10, .mov (.t 28), none, []⟩] [8, 9, 19, 27, 28]
def R_slices_heapSortOrdered_8 : AC := .ops false [⟨some 29, .mov (.t 10), none, []⟩,
  ⟨some 30, .bin .geq (.t 29) (.c (.int .i64 0)), none, []⟩] [29]
def R_slices_heapSortOrdered_10 : AC := .ops true [⟨some 33, .mov (.t 0), none, []⟩,
  ⟨some 34, .mov (.t 6), none, []⟩,
  ⟨some 35, .mov (.t 0), none, []⟩,
  ⟨some 36, .mov (.t 6), none, []⟩,
  ⟨some 37, .mov (.t 10), none, []⟩,
  ⟨some 38, .bin .add (.t 36) (.t 37), none, [3, 4]⟩,
  ⟨some 39, .mov (.t 0), none, []⟩,
  ⟨some 40, .mov (.t 6), none, []⟩,
  ⟨some 41, .mov (.t 10), none, []⟩,
  ⟨some 42, .bin .add (.t 40) (.t 41), none, [7, 8]⟩,
  ⟨some 43, .ia 1 (.t 39) (.t 42), none, [6, 9]⟩,
  ⟨some 44, .load 1 true (.t 43), none, [10]⟩,
  ⟨some 45, .mov (.t 0), none, []⟩,
  ⟨some 46, .mov (.t 6), none, []⟩,
  ⟨some 47, .ia 1 (.t 45) (.t 46), none, [12, 13]⟩,
  ⟨some 48, .load 1 true (.t 47), none, [14]⟩,
  ⟨some 49, .ia 1 (.t 33) (.t 34), none, [0, 1, 0, 1, 6, 7, 8, 9, 10, 11, 15]⟩,
  ⟨none, .store 1 (.t 49) (.t 44), none, [16, 11, 0, 1, 6, 7, 8, 9, 10, 11, 15]⟩,
  ⟨some 50, .ia 1 (.t 35) (.t 38), none, [2, 5, 0, 1, 2, 3, 4, 5, 6, 7, 8, 9, 10, 11, 12, 13, 14, 15, 16, 17]⟩,
  ⟨none, .store 1 (.t 50) (.t 48), none, [18, 15, 17, 0, 1, 2, 3, 4, 5, 6, 7, 8, 9, 10, 11, 12, 13, 14, 15, 16, 17]⟩] [30, 33, 34, 35, 36, 37, 38, 39, 40, 41, 42, 43, 44, 45, 46, 47, 48, 49, 50]
def R_slices_heapSortOrdered_11 : AC := .ops false [⟨some 51, .mov (.t 0), none, []⟩,
  ⟨some 52, .mov (.t 7), none, []⟩,
  ⟨some 53, .mov (.t 10), none, []⟩,
  ⟨some 54, .mov (.t 6), none, []⟩,
  ⟨some 55, .call (.fn 314) [.t 51, .t 52, .t 53, .t 54], none, []⟩] [51, 52, 53, 54, 55]
def R_slices_heapSortOrdered_9 : AC := .ops false [⟨some 31, .mov (.t 10), none, []⟩,
  ⟨some 32, .bin .sub (.t 31) (.c (.int .i64 1)), none, []⟩,
  ⟨some 10, .mov (.t 32), none, []⟩] [31, 32]
def L_slices_heapSortOrdered_2 : AC := (.seq (.seq R_slices_heapSortOrdered_8 (.cond (.t 30) .skip (.exit 2))) (.seq (.block 3 (.seq R_slices_heapSortOrdered_10 R_slices_heapSortOrdered_11)) R_slices_heapSortOrdered_9))
def F_slices_heapSortOrdered : AFunc := { ntmps := 56, nargs := 3, kills := [[11], [], [1, 2, 12, 13, 14], [15, 16, 17], [18], [20, 21], [19, 22, 23, 24, 25, 26], [8, 9, 19, 27, 28], [29], [31, 32], [30, 33, 34, 35, 36, 37, 38, 39, 40, 41, 42, 43, 44, 45, 46, 47, 48, 49, 50], [51, 52, 53, 54, 55]], results := [], body := (.seq R_slices_heapSortOrdered_0 (.seq R_slices_heapSortOrdered_1 (.seq R_slices_heapSortOrdered_2 (.seq (.seq R_slices_heapSortOrdered_3 (.block 0 (.loop L_slices_heapSortOrdered_1))) (.seq R_slices_heapSortOrdered_7 (.block 2 (.loop L_slices_heapSortOrdered_2))))))) }
noncomputable def T299 : { F : AFunc // CT.func [[11], [], [1, 2, 12, 13, 14], [15, 16, 17], [18], [20, 21], [19, 22, 23, 24, 25, 26], [8, 9, 19, 27, 28], [29], [31, 32], [30, 33, 34, 35, 36, 37, 38, 39, 40, 41, 42, 43, 44, 45, 46, 47, 48, 49, 50], [51, 52, 53, 54, 55]] Tryz.f299 = some F } := ⟨F_slices_heapSortOrdered, by kernel_rfl⟩
theorem c299 : Cert 299 T299.1 := cert_of T299.2 Tryz.func299
-- slices.breakPatternsOrdered[int]
def R_slices_breakPatternsOrdered_0 : AC := .ops false [⟨some 11, .mov (.t 2), none, []⟩,
  ⟨some 12, .mov (.t 1), none, []⟩,
  ⟨some 13, .bin .sub (.t 11) (.t 12), none, []⟩,
  ⟨some 6, .mov (.t 13), none, []⟩] [2, 11, 12, 13]
def R_slices_breakPatternsOrdered_1 : AC := .ops false [⟨some 14, .mov (.t 6), none, []⟩,
  ⟨some 15, .bin .geq (.t 14) (.c (.int .i64 8)), none, []⟩] [14]
def R_slices_breakPatternsOrdered_2 : AC := .ops false [⟨some 16, .mov (.t 6), none, []⟩,
  ⟨some 17, .conv .u64 (.t 16), none, []⟩,
  ⟨some 7, .alloc [.int .u64 0], none, []⟩,
  ⟨none, .store 1 (.t 7) (.t 17), none, []⟩] [15, 16, 17]
def R_slices_breakPatternsOrdered_3 : AC := .ops false [⟨some 18, .mov (.t 6), none, []⟩,
  ⟨some 19, .call (.fn 315) [.t 18], none, []⟩,
  ⟨some 8, .mov (.t 19), none, []⟩] [18, 19]
def R_slices_breakPatternsOrdered_4 : AC := .ops false [⟨some 20, .mov (.t 1), none, []⟩,
  ⟨some 21, .mov (.t 6), none, []⟩,
  ⟨some 22, .bin .quo (.t 21) (.c (.int .i64 4)), none, []⟩,
  ⟨some 23, .bin .mul (.t 22) (.c (.int .i64 2)), none, []⟩,
  ⟨some 24, .bin .add (.t 20) (.t 23), none, []⟩,
  ⟨some 25, .bin .sub (.t 24) (.c (.int .i64 1)), none, []⟩,
  ⟨some 9, .mov (.t 25), none, []⟩] [20, 21, 22, 23, 24, 25]
def R_slices_breakPatternsOrdered_5 : AC := .ops false [⟨some 26, .mov (.t 9), none, []⟩,
  ⟨some 27, .mov (.t 1), none, []⟩,
  ⟨some 28, .mov (.t 6), none, []⟩,
  ⟨some 29, .bin .quo (.t 28) (.c (.int .i64 4)), none, []⟩,
  ⟨some 30, .bin .mul (.t 29) (.c (.int .i64 2)), none, []⟩,
  ⟨some 31, .bin .add (.t 27) (.t 30), none, []⟩,
  ⟨some 32, .bin .add (.t 31) (.c (.int .i64 1)), none, []⟩,
  ⟨some 33, .bin .leq (.t 26) (.t 32), none, []⟩] [26, 27, 28, 29, 30, 31, 32]
def R_slices_breakPatternsOrdered_7 : AC := .ops false [⟨some 36, .call (.fn 316) [.t 7], none, []⟩,
  ⟨some 37, .mov (.t 8), none, []⟩,
  ⟨some 38, .bin .sub (.t 37) (.c (.int .u64 1)), none, []⟩,
  ⟨some 39, .bin .and (.t 36) (.t 38), none, []⟩,
  ⟨some 40, .conv .i64 (.t 39), none, []⟩,
  ⟨some 10, .mov (.t 40), none, []⟩] [33, 36, 37, 38, 39, 40]
def R_slices_breakPatternsOrdered_8 : AC := .ops false [⟨some 41, .mov (.t 10), none, []⟩,
  ⟨some 42, .mov (.t 6), none, []⟩,
  ⟨some 43, .bin .geq (.t 41) (.t 42), none, []⟩] [41, 42]
def R_slices_breakPatternsOrdered_9 : AC := .ops false [⟨some 44, .mov (.t 10), none, []⟩,
  ⟨some 45, .mov (.t 6), none, []⟩,
  ⟨some 46, .bin .sub (.t 44) (.t 45), none, []⟩,
  ⟨some 10, .mov (.t 46), none, []⟩] [43, 44, 45, 46]
def R_slices_breakPatternsOrdered_10 : AC := .ops true [⟨some 47, .mov (.t 0), none, []⟩,
  ⟨some 48, .mov (.t 9), none, []⟩,
  ⟨some 49, .mov (.t 0), none, []⟩,
  ⟨some 50, .mov (.t 1), none, []⟩,
  ⟨some 51, .mov (.t 10), none, []⟩,
  ⟨some 52, .bin .add (.t 50) (.t 51), none, [3, 4]⟩,
  ⟨some 53, .mov (.t 0), none, []⟩,
  ⟨some 54, .mov (.t 1), none, []⟩,
  ⟨some 55, .mov (.t 10), none, []⟩,
  ⟨some 56, .bin .add (.t 54) (.t 55), none, [7, 8]⟩,
  ⟨some 57, .ia 1 (.t 53) (.t 56), none, [6, 9]⟩,
  ⟨some 58, .load 1 true (.t 57), none, [10]⟩,
  ⟨some 59, .mov (.t 0), none, []⟩,
  ⟨some 60, .mov (.t 9), none, []⟩,
  ⟨some 61, .ia 1 (.t 59) (.t 60), none, [12, 13]⟩,
  ⟨some 62, .load 1 true (.t 61), none, [14]⟩,
  ⟨some 63, .ia 1 (.t 47) (.t 48), none, [0, 1, 0, 1, 6, 7, 8, 9, 10, 11, 15]⟩,
  ⟨none, .store 1 (.t 63) (.t 58), none, [16, 11, 0, 1, 6, 7, 8, 9, 10, 11, 15]⟩,
  ⟨some 64, .ia 1 (.t 49) (.t 52), none, [2, 5, 0, 1, 2, 3, 4, 5, 6, 7, 8, 9, 10, 11, 12, 13, 14, 15, 16, 17]⟩,
  ⟨none, .store 1 (.t 64) (.t 62), none, [18, 15, 17, 0, 1, 2, 3, 4, 5, 6, 7, 8, 9, 10, 11, 12, 13, 14, 15, 16, 17]⟩] [10, 43, 47, 48, 49, 50, 51, 52, 53, 54, 55, 56, 57, 58, 59, 60, 61, 62, 63, 64]
def R_slices_breakPatternsOrdered_6 : AC := .ops false [⟨some 34, .mov (.t 9), none, []⟩,
  ⟨some 35, .bin .add (.t 34) (.c (.int .i64 1)), none, []⟩,
  ⟨some 9, .mov (.t 35), none, []⟩] [34, 35]
def L_slices_breakPatternsOrdered_1 : AC := (.seq (.seq R_slices_breakPatternsOrdered_5 (.cond (.t 33) .skip (.exit 0))) (.seq (.block 1 (.seq R_slices_breakPatternsOrdered_7 (.seq (.seq R_slices_breakPatternsOrdered_8 (.cond (.t 43) R_slices_breakPatternsOrdered_9 .skip)) R_slices_breakPatternsOrdered_10))) R_slices_breakPatternsOrdered_6))
def F_slices_breakPatternsOrdered : AFunc := { ntmps := 65, nargs := 3, kills := [[2, 11, 12, 13], [14], [15, 16, 17], [18, 19], [20, 21, 22, 23, 24, 25], [26, 27, 28, 29, 30, 31, 32], [34, 35], [33, 36, 37, 38, 39, 40], [41, 42], [43, 44, 45, 46], [10, 43, 47, 48, 49, 50, 51, 52, 53, 54, 55, 56, 57, 58, 59, 60, 61, 62, 63, 64]], results := [], body := (.seq R_slices_breakPatternsOrdered_0 (.seq R_slices_breakPatternsOrdered_1 (.cond (.t 15) (.seq R_slices_breakPatternsOrdered_2 (.seq R_slices_breakPatternsOrdered_3 (.seq R_slices_breakPatternsOrdered_4 (.block 0 (.loop L_slices_breakPatternsOrdered_1))))) .skip))) }
noncomputable def T300 : { F : AFunc // CT.func [[2, 11, 12, 13], [14], [15, 16, 17], [18, 19], [20, 21, 22, 23, 24, 25], [26, 27, 28, 29, 30, 31, 32], [34, 35], [33, 36, 37, 38, 39, 40], [41, 42], [43, 44, 45, 46], [10, 43, 47, 48, 49, 50, 51, 52, 53, 54, 55, 56, 57, 58, 59, 60, 61, 62, 63, 64]] Tryz.f300 = some F } := ⟨F_slices_breakPatternsOrdered, by kernel_rfl⟩
theorem c300 : Cert 300 T300.1 := cert_of T300.2 Tryz.func300
-- slices.choosePivotOrdered[int]
def R_slices_choosePivotOrdered_0 : AC := .ops false [⟨some 6, .mov (.c (.int .i64 0)), none, []⟩,
  ⟨some 7, .mov (.c (.int .i64 0)), none, []⟩] [6, 7]
def R_slices_choosePivotOrdered_1 : AC := .ops false [⟨some 13, .mov (.t 2), none, []⟩,
  ⟨some 14, .mov (.t 1), none, []⟩,
  ⟨some 15, .bin .sub (.t 13) (.t 14), none, []⟩,
  ⟨some 8, .mov (.t 15), none, []⟩] [2, 13, 14, 15]
def R_slices_choosePivotOrdered_2 : AC := .ops false [⟨some 9, .alloc [.int .i64 0], none, []⟩] []
def R_slices_choosePivotOrdered_3 : AC := .ops false [⟨some 16, .mov (.t 1), none, []⟩,
  ⟨some 17, .mov (.t 8), none, []⟩,
  ⟨some 18, .bin .quo (.t 17) (.c (.int .i64 4)), none, []⟩,
  ⟨some 19, .bin .mul (.t 18) (.c (.int .i64 1)), none, []⟩,
  ⟨some 20, .bin .add (.t 16) (.t 19), none, []⟩,
  ⟨some 10, .mov (.t 20), none, []⟩] [16, 17, 18, 19, 20]
def R_slices_choosePivotOrdered_4 : AC := .ops false [⟨some 21, .mov (.t 1), none, []⟩,
  ⟨some 22, .mov (.t 8), none, []⟩,
  ⟨some 23, .bin .quo (.t 22) (.c (.int .i64 4)), none, []⟩,
  ⟨some 24, .bin .mul (.t 23) (.c (.int .i64 2)), none, []⟩,
  ⟨some 25, .bin .add (.t 21) (.t 24), none, []⟩,
  ⟨some 11, .mov (.t 25), none, []⟩] [21, 22, 23, 24, 25]
def R_slices_choosePivotOrdered_5 : AC := .ops false [⟨some 26, .mov (.t 1), none, []⟩,
  ⟨some 27, .mov (.t 8), none, []⟩,
  ⟨some 28, .bin .quo (.t 27) (.c (.int .i64 4)), none, []⟩,
  ⟨some 29, .bin .mul (.t 28) (.c (.int .i64 3)), none, []⟩,
  ⟨some 30, .bin .add (.t 26) (.t 29), none, []⟩,
  ⟨some 12, .mov (.t 30), none, []⟩] [1, 26, 27, 28, 29, 30]
def R_slices_choosePivotOrdered_6 : AC := .ops false [⟨some 31, .mov (.t 8), none, []⟩,
  ⟨some 32, .bin .geq (.t 31) (.c (.int .i64 8)), none, []⟩] [31]
def R_slices_choosePivotOrdered_7 : AC := .ops false [⟨some 33, .mov (.t 8), none, []⟩,
  ⟨some 34, .bin .geq (.t 33) (.c (.int .i64 50)), none, []⟩] [8, 32, 33]
def R_slices_choosePivotOrdered_8 : AC := .ops false [⟨some 35, .mov (.t 0), none, []⟩,
  ⟨some 36, .mov (.t 10), none, []⟩,
  ⟨some 37, .call (.fn 317) [.t 35, .t 36, .t 9], none, []⟩,
  ⟨some 10, .mov (.t 37), none, []⟩] [34, 35, 36, 37]
def R_slices_choosePivotOrdered_9 : AC := .ops false [⟨some 38, .mov (.t 0), none, []⟩,
  ⟨some 39, .mov (.t 11), none, []⟩,
  ⟨some 40, .call (.fn 317) [.t 38, .t 39, .t 9], none, []⟩,
  ⟨some 11, .mov (.t 40), none, []⟩] [38, 39, 40]
def R_slices_choosePivotOrdered_10 : AC := .ops false [⟨some 41, .mov (.t 0), none, []⟩,
  ⟨some 42, .mov (.t 12), none, []⟩,
  ⟨some 43, .call (.fn 317) [.t 41, .t 42, .t 9], none, []⟩,
  ⟨some 12, .mov (.t 43), none, []⟩] [41, 42, 43]
def R_slices_choosePivotOrdered_11 : AC := .ops false [⟨some 44, .mov (.t 0), none, []⟩,
  ⟨some 45, .mov (.t 10), none, []⟩,
  ⟨some 46, .mov (.t 11), none, []⟩,
  ⟨some 47, .mov (.t 12), none, []⟩,
  ⟨some 48, .call (.fn 318) [.t 44, .t 45, .t 46, .t 47, .t 9], none, []⟩,
  ⟨some 11, .mov (.t 48), none, []⟩] [0, 10, 12, 34, 44, 45, 46, 47, 48]
def R_slices_choosePivotOrdered_12 : AC := .ops false [⟨some 49, .load 1 true (.t 9), none, []⟩] [0, 8, 9, 10, 12, 32]
def R_slices_choosePivotOrdered_14 : AC := .ops false [⟨some 52, .bin .eql (.t 49) (.c (.int .i64 0)), none, []⟩,
  ⟨some 51, .mov (.t 52), none, []⟩] [52]
def R_slices_choosePivotOrdered_15 : AC := .ops false [⟨some 53, .mov (.t 11), none, []⟩,
  ⟨some 6, .mov (.t 53), none, []⟩,
  ⟨some 7, .mov (.c (.int .i64 1)), none, []⟩] [11, 49, 51, 53]
def R_slices_choosePivotOrdered_16 : AC := .ops false [⟨some 55, .bin .eql (.t 49) (.c (.int .i64 12)), none, []⟩,
  ⟨some 54, .mov (.t 55), none, []⟩] [49, 51, 55]
def R_slices_choosePivotOrdered_17 : AC := .ops false [⟨some 56, .mov (.t 11), none, []⟩,
  ⟨some 6, .mov (.t 56), none, []⟩,
  ⟨some 7, .mov (.c (.int .i64 2)), none, []⟩] [11, 54, 56]
def R_slices_choosePivotOrdered_13 : AC := .ops false [⟨some 50, .mov (.t 11), none, []⟩,
  ⟨some 6, .mov (.t 50), none, []⟩,
  ⟨some 7, .mov (.c (.int .i64 0)), none, []⟩] [11, 50, 54]
def F_slices_choosePivotOrdered : AFunc := { ntmps := 57, nargs := 3, kills := [[6, 7], [2, 13, 14, 15], [], [16, 17, 18, 19, 20], [21, 22, 23, 24, 25], [1, 26, 27, 28, 29, 30], [31], [8, 32, 33], [34, 35, 36, 37], [38, 39, 40], [41, 42, 43], [0, 10, 12, 34, 44, 45, 46, 47, 48], [0, 8, 9, 10, 12, 32], [11, 50, 54], [52], [11, 49, 51, 53], [49, 51, 55], [11, 54, 56]], results := [.t 6, .t 7], body := (.seq R_slices_choosePivotOrdered_0 (.seq R_slices_choosePivotOrdered_1 (.seq R_slices_choosePivotOrdered_2 (.seq R_slices_choosePivotOrdered_3 (.seq R_slices_choosePivotOrdered_4 (.seq R_slices_choosePivotOrdered_5 (.seq (.seq R_slices_choosePivotOrdered_6 (.cond (.t 32) (.seq (.seq R_slices_choosePivotOrdered_7 (.cond (.t 34) (.seq R_slices_choosePivotOrdered_8 (.seq R_slices_choosePivotOrdered_9 R_slices_choosePivotOrdered_10)) .skip)) R_slices_choosePivotOrdered_11) .skip)) (.seq R_slices_choosePivotOrdered_12 (.block 0 (.seq R_slices_choosePivotOrdered_14 (.cond (.t 51) (.seq R_slices_choosePivotOrdered_15 .ret) (.seq R_slices_choosePivotOrdered_16 (.cond (.t 54) (.seq R_slices_choosePivotOrdered_17 .ret) (.seq R_slices_choosePivotOrdered_13 .ret)))))))))))))) }
noncomputable def T301 : { F : AFunc // CT.func [[6, 7], [2, 13, 14, 15], [], [16, 17, 18, 19, 20], [21, 22, 23, 24, 25], [1, 26, 27, 28, 29, 30], [31], [8, 32, 33], [34, 35, 36, 37], [38, 39, 40], [41, 42, 43], [0, 10, 12, 34, 44, 45, 46, 47, 48], [0, 8, 9, 10, 12, 32], [11, 50, 54], [52], [11, 49, 51, 53], [49, 51, 55], [11, 54, 56]] Tryz.f301 = some F } := ⟨F_slices_choosePivotOrdered, by kernel_rfl⟩
theorem c301 : Cert 301 T301.1 := cert_of T301.2 Tryz.func301
-- slices.reverseRangeOrdered[int]
noncomputable def T302 : { F : AFunc // CT.func [[1, 8], [2, 9, 10], [11, 12], [13, 14, 15, 16, 17, 18, 19, 20, 21, 22, 23, 24, 25, 26, 27], [28, 29], [30, 31]] Tryz.f302 = some F } := by
  refine ⟨?F, ?h⟩
  case h =>
    conv => lhs; cbv
theorem c302 : Cert 302 T302.1 := cert_of T302.2 Tryz.func302
-- slices.partialInsertionSortOrdered[int]
def R_slices_partialInsertionSortOrdered_0 : AC := .ops false [⟨some 6, .mov (.c (.bool false)), none, []⟩] [6]
def R_slices_partialInsertionSortOrdered_1 : AC := .ops false [⟨some 11, .mov (.t 1), none, []⟩,
  ⟨some 12, .bin .add (.t 11) (.c (.int .i64 1)), none, []⟩,
  ⟨some 7, .mov (.t 12), none, []⟩] [11, 12]
def R_slices_partialInsertionSortOrdered_2 : AC := .ops false [⟨some 8, .mov (.c (.int .i64 0)), none, []⟩] []
def R_slices_partialInsertionSortOrdered_3 : AC := .ops false [⟨some 13, .mov (.t 8), none, []⟩,
  ⟨some 14, .bin .lss (.t 13) (.c (.int .i64 5)), none, []⟩] [13]
def R_slices_partialInsertionSortOrdered_5 : AC := .ops true [⟨some 17, .mov (.t 7), none, []⟩,
  ⟨some 18, .mov (.t 2), none, []⟩,
  ⟨some 19, .bin .lss (.t 17) (.t 18), none, [0, 1]⟩,
  ⟨some 20, .mov (.t 19), none, [2]⟩,
  ⟨some 21, .mov (.t 0), some (20, true), [3]⟩,
  ⟨some 22, .mov (.t 7), some (20, true), [3]⟩,
  ⟨some 23, .ia 1 (.t 21) (.t 22), some (20, true), [4, 5, 3]⟩,
  ⟨some 24, .load 1 true (.t 23), some (20, true), [6, 3]⟩,
  ⟨some 25, .mov (.t 0), some (20, true), [3]⟩,
  ⟨some 26, .mov (.t 7), some (20, true), [3]⟩,
  ⟨some 27, .bin .sub (.t 26) (.c (.int .i64 1)), some (20, true), [9, 3]⟩,
  ⟨some 28, .ia 1 (.t 25) (.t 27), some (20, true), [8, 10, 3]⟩,
  ⟨some 29, .load 1 true (.t 28), some (20, true), [11, 3]⟩,
  ⟨some 30, .call (.fn 254) [.t 24, .t 29], some (20, true), [7, 12, 3, 3]⟩,
  ⟨some 31, .un .not (.t 30), some (20, true), [13, 3]⟩,
  ⟨some 32, .pick (.t 20) (.t 31) (.c (.bool false)), none, [3, 14]⟩] [14, 17, 18, 19, 20, 21, 22, 23, 24, 25, 26, 27, 28, 29, 30, 31]
def R_slices_partialInsertionSortOrdered_6 : AC := .ops false [⟨some 33, .mov (.t 7), none, []⟩,
  ⟨some 34, .bin .add (.t 33) (.c (.int .i64 1)), none, []⟩,
  ⟨some 7, .mov (.t 34), none, []⟩] [32, 33, 34]
def L_slices_partialInsertionSortOrdered_1 : AC := (.seq (.seq R_slices_partialInsertionSortOrdered_5 (.cond (.t 32) .skip (.exit 2))) (.block 3 R_slices_partialInsertionSortOrdered_6))
def R_slices_partialInsertionSortOrdered_7 : AC := .ops false [⟨some 35, .mov (.t 7), none, []⟩,
  ⟨some 36, .mov (.t 2), none, []⟩,
  ⟨some 37, .bin .eql (.t 35) (.t 36), none, []⟩] [32, 35, 36]
def R_slices_partialInsertionSortOrdered_8 : AC := .ops false [⟨some 6, .mov (.c (.bool true)), none, []⟩] [0, 1, 2, 7, 8, 37]
def R_slices_partialInsertionSortOrdered_9 : AC := .ops false [⟨some 38, .mov (.t 2), none, []⟩,
  ⟨some 39, .mov (.t 1), none, []⟩,
  ⟨some 40, .bin .sub (.t 38) (.t 39), none, []⟩,
  ⟨some 41, .bin .lss (.t 40) (.c (.int .i64 50)), none, []⟩] [37, 38, 39, 40]
def R_slices_partialInsertionSortOrdered_10 : AC := .ops false [⟨some 6, .mov (.c (.bool false)), none, []⟩] [0, 1, 2, 7, 8, 41]
def R_slices_partialInsertionSortOrdered_11 : AC := .ops true [⟨some 42, .mov (.t 0), none, []⟩,
  ⟨some 43, .mov (.t 7), none, []⟩,
  ⟨some 44, .mov (.t 0), none, []⟩,
  ⟨some 45, .mov (.t 7), none, []⟩,
  ⟨some 46, .bin .sub (.t 45) (.c (.int .i64 1)), none, [3]⟩,
  ⟨some 47, .mov (.t 0), none, []⟩,
  ⟨some 48, .mov (.t 7), none, []⟩,
  ⟨some 49, .bin .sub (.t 48) (.c (.int .i64 1)), none, [6]⟩,
  ⟨some 50, .ia 1 (.t 47) (.t 49), none, [5, 7]⟩,
  ⟨some 51, .load 1 true (.t 50), none, [8]⟩,
  ⟨some 52, .mov (.t 0), none, []⟩,
  ⟨some 53, .mov (.t 7), none, []⟩,
  ⟨some 54, .ia 1 (.t 52) (.t 53), none, [10, 11]⟩,
  ⟨some 55, .load 1 true (.t 54), none, [12]⟩,
  ⟨some 56, .ia 1 (.t 42) (.t 43), none, [0, 1, 0, 1, 5, 6, 7, 8, 9, 13]⟩,
  ⟨none, .store 1 (.t 56) (.t 51), none, [14, 9, 0, 1, 5, 6, 7, 8, 9, 13]⟩,
  ⟨some 57, .ia 1 (.t 44) (.t 46), none, [2, 4, 0, 1, 2, 3, 4, 5, 6, 7, 8, 9, 10, 11, 12, 13, 14, 15]⟩,
  ⟨none, .store 1 (.t 57) (.t 55), none, [16, 13, 15, 0, 1, 2, 3, 4, 5, 6, 7, 8, 9, 10, 11, 12, 13, 14, 15]⟩] [41, 42, 43, 44, 45, 46, 47, 48, 49, 50, 51, 52, 53, 54, 55, 56, 57]
def R_slices_partialInsertionSortOrdered_12 : AC := .ops false [⟨some 58, .mov (.t 7), none, []⟩,
  ⟨some 59, .mov (.t 1), none, []⟩,
  ⟨some 60, .bin .sub (.t 58) (.t 59), none, []⟩,
  ⟨some 61, .bin .geq (.t 60) (.c (.int .i64 2)), none, []⟩] [58, 59, 60]
def R_slices_partialInsertionSortOrdered_13 : AC := .ops false [⟨some 62, .mov (.t 7), none, []⟩,
  ⟨some 63, .bin .sub (.t 62) (.c (.int .i64 1)), none, []⟩,
  ⟨some 9, .mov (.t 63), none, []⟩] [61, 62, 63]
def R_slices_partialInsertionSortOrdered_14 : AC := .ops false [⟨some 64, .mov (.t 9), none, []⟩,
  ⟨some 65, .bin .geq (.t 64) (.c (.int .i64 1)), none, []⟩] [64]
def R_slices_partialInsertionSortOrdered_16 : AC := .ops true [⟨some 68, .mov (.t 0), none, []⟩,
  ⟨some 69, .mov (.t 9), none, []⟩,
  ⟨some 70, .ia 1 (.t 68) (.t 69), none, [0, 1]⟩,
  ⟨some 71, .load 1 true (.t 70), none, [2]⟩,
  ⟨some 72, .mov (.t 0), none, []⟩,
  ⟨some 73, .mov (.t 9), none, []⟩,
  ⟨some 74, .bin .sub (.t 73) (.c (.int .i64 1)), none, [5]⟩,
  ⟨some 75, .ia 1 (.t 72) (.t 74), none, [4, 6]⟩,
  ⟨some 76, .load 1 true (.t 75), none, [7]⟩,
  ⟨some 77, .call (.fn 254) [.t 71, .t 76], none, [3, 8]⟩,
  ⟨some 78, .un .not (.t 77), none, [9]⟩] [65, 68, 69, 70, 71, 72, 73, 74, 75, 76, 77]
def R_slices_partialInsertionSortOrdered_17 : AC := .ops true [⟨some 79, .mov (.t 0), none, []⟩,
  ⟨some 80, .mov (.t 9), none, []⟩,
  ⟨some 81, .mov (.t 0), none, []⟩,
  ⟨some 82, .mov (.t 9), none, []⟩,
  ⟨some 83, .bin .sub (.t 82) (.c (.int .i64 1)), none, [3]⟩,
  ⟨some 84, .mov (.t 0), none, []⟩,
  ⟨some 85, .mov (.t 9), none, []⟩,
  ⟨some 86, .bin .sub (.t 85) (.c (.int .i64 1)), none, [6]⟩,
  ⟨some 87, .ia 1 (.t 84) (.t 86), none, [5, 7]⟩,
  ⟨some 88, .load 1 true (.t 87), none, [8]⟩,
  ⟨some 89, .mov (.t 0), none, []⟩,
  ⟨some 90, .mov (.t 9), none, []⟩,
  ⟨some 91, .ia 1 (.t 89) (.t 90), none, [10, 11]⟩,
  ⟨some 92, .load 1 true (.t 91), none, [12]⟩,
  ⟨some 93, .ia 1 (.t 79) (.t 80), none, [0, 1, 0, 1, 5, 6, 7, 8, 9, 13]⟩,
  ⟨none, .store 1 (.t 93) (.t 88), none, [14, 9, 0, 1, 5, 6, 7, 8, 9, 13]⟩,
  ⟨some 94, .ia 1 (.t 81) (.t 83), none, [2, 4, 0, 1, 2, 3, 4, 5, 6, 7, 8, 9, 10, 11, 12, 13, 14, 15]⟩,
  ⟨none, .store 1 (.t 94) (.t 92), none, [16, 13, 15, 0, 1, 2, 3, 4, 5, 6, 7, 8, 9, 10, 11, 12, 13, 14, 15]⟩] [78, 79, 80, 81, 82, 83, 84, 85, 86, 87, 88, 89, 90, 91, 92, 93, 94]
def R_slices_partialInsertionSortOrdered_15 : AC := .ops false [⟨some 66, .mov (.t 9), none, []⟩,
  ⟨some 67, .bin .sub (.t 66) (.c (.int .i64 1)), none, []⟩,
  ⟨some 9, .mov (.t 67), none, []⟩] [66, 67]
def L_slices_partialInsertionSortOrdered_2 : AC := (.seq (.seq R_slices_partialInsertionSortOrdered_14 (.cond (.t 65) .skip (.exit 4))) (.seq (.block 5 (.seq (.seq R_slices_partialInsertionSortOrdered_16 (.cond (.t 78) (.exit 4) .skip)) R_slices_partialInsertionSortOrdered_17)) R_slices_partialInsertionSortOrdered_15))
def R_slices_partialInsertionSortOrdered_18 : AC := .ops false [⟨some 95, .mov (.t 2), none, []⟩,
  ⟨some 96, .mov (.t 7), none, []⟩,
  ⟨some 97, .bin .sub (.t 95) (.t 96), none, []⟩,
  ⟨some 98, .bin .geq (.t 97) (.c (.int .i64 2)), none, []⟩] [9, 61, 65, 78, 95, 96, 97]
def R_slices_partialInsertionSortOrdered_19 : AC := .ops false [⟨some 99, .mov (.t 7), none, []⟩,
  ⟨some 100, .bin .add (.t 99) (.c (.int .i64 1)), none, []⟩,
  ⟨some 10, .mov (.t 100), none, []⟩] [98, 99, 100]
def R_slices_partialInsertionSortOrdered_20 : AC := .ops false [⟨some 101, .mov (.t 10), none, []⟩,
  ⟨some 102, .mov (.t 2), none, []⟩,
  ⟨some 103, .bin .lss (.t 101) (.t 102), none, []⟩] [101, 102]
def R_slices_partialInsertionSortOrdered_22 : AC := .ops true [⟨some 106, .mov (.t 0), none, []⟩,
  ⟨some 107, .mov (.t 10), none, []⟩,
  ⟨some 108, .ia 1 (.t 106) (.t 107), none, [0, 1]⟩,
  ⟨some 109, .load 1 true (.t 108), none, [2]⟩,
  ⟨some 110, .mov (.t 0), none, []⟩,
  ⟨some 111, .mov (.t 10), none, []⟩,
  ⟨some 112, .bin .sub (.t 111) (.c (.int .i64 1)), none, [5]⟩,
  ⟨some 113, .ia 1 (.t 110) (.t 112), none, [4, 6]⟩,
  ⟨some 114, .load 1 true (.t 113), none, [7]⟩,
  ⟨some 115, .call (.fn 254) [.t 109, .t 114], none, [3, 8]⟩,
  ⟨some 116, .un .not (.t 115), none, [9]⟩] [103, 106, 107, 108, 109, 110, 111, 112, 113, 114, 115]
def R_slices_partialInsertionSortOrdered_23 : AC := .ops true [⟨some 117, .mov (.t 0), none, []⟩,
  ⟨some 118, .mov (.t 10), none, []⟩,
  ⟨some 119, .mov (.t 0), none, []⟩,
  ⟨some 120, .mov (.t 10), none, []⟩,
  ⟨some 121, .bin .sub (.t 120) (.c (.int .i64 1)), none, [3]⟩,
  ⟨some 122, .mov (.t 0), none, []⟩,
  ⟨some 123, .mov (.t 10), none, []⟩,
  ⟨some 124, .bin .sub (.t 123) (.c (.int .i64 1)), none, [6]⟩,
  ⟨some 125, .ia 1 (.t 122) (.t 124), none, [5, 7]⟩,
  ⟨some 126, .load 1 true (.t 125), none, [8]⟩,
  ⟨some 127, .mov (.t 0), none, []⟩,
  ⟨some 128, .mov (.t 10), none, []⟩,
  ⟨some 129, .ia 1 (.t 127) (.t 128), none, [10, 11]⟩,
  ⟨some 130, .load 1 true (.t 129), none, [12]⟩,
  ⟨some 131, .ia 1 (.t 117) (.t 118), none, [0, 1, 0, 1, 5, 6, 7, 8, 9, 13]⟩,
  ⟨none, .store 1 (.t 131) (.t 126), none, [14, 9, 0, 1, 5, 6, 7, 8, 9, 13]⟩,
  ⟨some 132, .ia 1 (.t 119) (.t 121), none, [2, 4, 0, 1, 2, 3, 4, 5, 6, 7, 8, 9, 10, 11, 12, 13, 14, 15]⟩,
  ⟨none, .store 1 (.t 132) (.t 130), none, [16, 13, 15, 0, 1, 2, 3, 4, 5, 6, 7, 8, 9, 10, 11, 12, 13, 14, 15]⟩] [116, 117, 118, 119, 120, 121, 122, 123, 124, 125, 126, 127, 128, 129, 130, 131, 132]
def R_slices_partialInsertionSortOrdered_21 : AC := .ops false [⟨some 104, .mov (.t 10), none, []⟩,
  ⟨some 105, .bin .add (.t 104) (.c (.int .i64 1)), none, []⟩,
  ⟨some 10, .mov (.t 105), none, []⟩] [104, 105]
def L_slices_partialInsertionSortOrdered_3 : AC := (.seq (.seq R_slices_partialInsertionSortOrdered_20 (.cond (.t 103) .skip (.exit 6))) (.seq (.block 7 (.seq (.seq R_slices_partialInsertionSortOrdered_22 (.cond (.t 116) (.exit 6) .skip)) R_slices_partialInsertionSortOrdered_23)) R_slices_partialInsertionSortOrdered_21))
def R_slices_partialInsertionSortOrdered_4 : AC := .ops false [⟨some 15, .mov (.t 8), none, []⟩,
  ⟨some 16, .bin .add (.t 15) (.c (.int .i64 1)), none, []⟩,
  ⟨some 8, .mov (.t 16), none, []⟩] [10, 15, 16, 98, 103, 116]
def L_slices_partialInsertionSortOrdered_4 : AC := (.seq (.seq R_slices_partialInsertionSortOrdered_3 (.cond (.t 14) .skip (.exit 0))) (.seq (.block 1 (.seq (.block 2 (.loop L_slices_partialInsertionSortOrdered_1)) (.seq (.seq R_slices_partialInsertionSortOrdered_7 (.cond (.t 37) (.seq R_slices_partialInsertionSortOrdered_8 .ret) .skip)) (.seq (.seq R_slices_partialInsertionSortOrdered_9 (.cond (.t 41) (.seq R_slices_partialInsertionSortOrdered_10 .ret) .skip)) (.seq R_slices_partialInsertionSortOrdered_11 (.seq (.seq R_slices_partialInsertionSortOrdered_12 (.cond (.t 61) (.seq R_slices_partialInsertionSortOrdered_13 (.block 4 (.loop L_slices_partialInsertionSortOrdered_2))) .skip)) (.seq R_slices_partialInsertionSortOrdered_18 (.cond (.t 98) (.seq R_slices_partialInsertionSortOrdered_19 (.block 6 (.loop L_slices_partialInsertionSortOrdered_3))) .skip)))))))) R_slices_partialInsertionSortOrdered_4))
def R_slices_partialInsertionSortOrdered_24 : AC := .ops false [⟨some 6, .mov (.c (.bool false)), none, []⟩] [0, 1, 2, 7, 8, 14]
def F_slices_partialInsertionSortOrdered : AFunc := { ntmps := 133, nargs := 3, kills := [[6], [11, 12], [], [13], [10, 15, 16, 98, 103, 116], [14, 17, 18, 19, 20, 21, 22, 23, 24, 25, 26, 27, 28, 29, 30, 31], [32, 33, 34], [32, 35, 36], [0, 1, 2, 7, 8, 37], [37, 38, 39, 40], [0, 1, 2, 7, 8, 41], [41, 42, 43, 44, 45, 46, 47, 48, 49, 50, 51, 52, 53, 54, 55, 56, 57], [58, 59, 60], [61, 62, 63], [64], [66, 67], [65, 68, 69, 70, 71, 72, 73, 74, 75, 76, 77], [78, 79, 80, 81, 82, 83, 84, 85, 86, 87, 88, 89, 90, 91, 92, 93, 94], [9, 61, 65, 78, 95, 96, 97], [98, 99, 100], [101, 102], [104, 105], [103, 106, 107, 108, 109, 110, 111, 112, 113, 114, 115], [116, 117, 118, 119, 120, 121, 122, 123, 124, 125, 126, 127, 128, 129, 130, 131, 132], [0, 1, 2, 7, 8, 14]], results := [.t 6], body := (.seq R_slices_partialInsertionSortOrdered_0 (.seq R_slices_partialInsertionSortOrdered_1 (.seq (.seq R_slices_partialInsertionSortOrdered_2 (.block 0 (.loop L_slices_partialInsertionSortOrdered_4))) (.seq R_slices_partialInsertionSortOrdered_24 .ret)))) }
noncomputable def T303 : { F : AFunc // CT.func [[6], [11, 12], [], [13], [10, 15, 16, 98, 103, 116], [14, 17, 18, 19, 20, 21, 22, 23, 24, 25, 26, 27, 28, 29, 30, 31], [32, 33, 34], [32, 35, 36], [0, 1, 2, 7, 8, 37], [37, 38, 39, 40], [0, 1, 2, 7, 8, 41], [41, 42, 43, 44, 45, 46, 47, 48, 49, 50, 51, 52, 53, 54, 55, 56, 57], [58, 59, 60], [61, 62, 63], [64], [66, 67], [65, 68, 69, 70, 71, 72, 73, 74, 75, 76, 77], [78, 79, 80, 81, 82, 83, 84, 85, 86, 87, 88, 89, 90, 91, 92, 93, 94], [9, 61, 65, 78, 95, 96, 97], [98, 99, 100], [101, 102], [104, 105], [103, 106, 107, 108, 109, 110, 111, 112, 113, 114, 115], [116, 117, 118, 119, 120, 121, 122, 123, 124, 125, 126, 127, 128, 129, 130, 131, 132], [0, 1, 2, 7, 8, 14]] Tryz.f303 = some F } := ⟨F_slices_partialInsertionSortOrdered, by kernel_rfl⟩
theorem c303 : Cert 303 T303.1 := cert_of T303.2 Tryz.func303
-- slices.partitionEqualOrdered[int]
def R_slices_partitionEqualOrdered_0 : AC := .ops false [⟨some 8, .mov (.c (.int .i64 0)), none, []⟩] [8]
def R_slices_partitionEqualOrdered_1 : AC := .ops true [⟨some 11, .mov (.t 0), none, []⟩,
  ⟨some 12, .mov (.t 1), none, []⟩,
  ⟨some 13, .mov (.t 0), none, []⟩,
  ⟨some 14, .mov (.t 3), none, []⟩,
  ⟨some 15, .mov (.t 0), none, []⟩,
  ⟨some 16, .mov (.t 3), none, []⟩,
  ⟨some 17, .ia 1 (.t 15) (.t 16), none, [4, 5]⟩,
  ⟨some 18, .load 1 true (.t 17), none, [6]⟩,
  ⟨some 19, .mov (.t 0), none, []⟩,
  ⟨some 20, .mov (.t 1), none, []⟩,
  ⟨some 21, .ia 1 (.t 19) (.t 20), none, [8, 9]⟩,
  ⟨some 22, .load 1 true (.t 21), none, [10]⟩,
  ⟨some 23, .ia 1 (.t 11) (.t 12), none, [0, 1, 0, 1, 4, 5, 6, 7, 11]⟩,
  ⟨none, .store 1 (.t 23) (.t 18), none, [12, 7, 0, 1, 4, 5, 6, 7, 11]⟩,
  ⟨some 24, .ia 1 (.t 13) (.t 14), none, [2, 3, 0, 1, 2, 3, 4, 5, 6, 7, 8, 9, 10, 11, 12, 13]⟩,
  ⟨none, .store 1 (.t 24) (.t 22), none, [14, 11, 13, 0, 1, 2, 3, 4, 5, 6, 7, 8, 9, 10, 11, 12, 13]⟩] [3, 11, 12, 13, 14, 15, 16, 17, 18, 19, 20, 21, 22, 23, 24]
def R_slices_partitionEqualOrdered_2 : AC := .ops false [⟨some 25, .mov (.t 1), none, []⟩,
  ⟨some 26, .bin .add (.t 25) (.c (.int .i64 1)), none, []⟩,
  ⟨some 27, .mov (.t 2), none, []⟩,
  ⟨some 28, .bin .sub (.t 27) (.c (.int .i64 1)), none, []⟩,
  ⟨some 9, .mov (.t 26), none, []⟩,
  ⟨some 10, .mov (.t 28), none, []⟩] [2, 25, 26, 27, 28]
def R_slices_partitionEqualOrdered_3 : AC := .ops true [⟨some 29, .mov (.t 9), none, []⟩,
  ⟨some 30, .mov (.t 10), none, []⟩,
  ⟨some 31, .bin .leq (.t 29) (.t 30), none, [0, 1]⟩,
  ⟨some 32, .mov (.t 31), none, [2]⟩,
  ⟨some 33, .mov (.t 0), some (32, true), [3]⟩,
  ⟨some 34, .mov (.t 1), some (32, true), [3]⟩,
  ⟨some 35, .ia 1 (.t 33) (.t 34), some (32, true), [4, 5, 3]⟩,
  ⟨some 36, .load 1 true (.t 35), some (32, true), [6, 3]⟩,
  ⟨some 37, .mov (.t 0), some (32, true), [3]⟩,
  ⟨some 38, .mov (.t 9), some (32, true), [3]⟩,
  ⟨some 39, .ia 1 (.t 37) (.t 38), some (32, true), [8, 9, 3]⟩,
  ⟨some 40, .load 1 true (.t 39), some (32, true), [10, 3]⟩,
  ⟨some 41, .call (.fn 254) [.t 36, .t 40], some (32, true), [7, 11, 3, 3]⟩,
  ⟨some 42, .un .not (.t 41), some (32, true), [12, 3]⟩,
  ⟨some 43, .pick (.t 32) (.t 42) (.c (.bool false)), none, [3, 13]⟩] [29, 30, 31, 32, 33, 34, 35, 36, 37, 38, 39, 40, 41, 42]
def R_slices_partitionEqualOrdered_4 : AC := .ops false [⟨some 44, .mov (.t 9), none, []⟩,
  ⟨some 45, .bin .add (.t 44) (.c (.int .i64 1)), none, []⟩,
  ⟨some 9, .mov (.t 45), none, []⟩] [43, 44, 45]
def L_slices_partitionEqualOrdered_1 : AC := (.seq (.seq R_slices_partitionEqualOrdered_3 (.cond (.t 43) .skip (.exit 2))) (.block 3 R_slices_partitionEqualOrdered_4))
def R_slices_partitionEqualOrdered_5 : AC := .ops true [⟨some 46, .mov (.t 9), none, []⟩,
  ⟨some 47, .mov (.t 10), none, []⟩,
  ⟨some 48, .bin .leq (.t 46) (.t 47), none, [0, 1]⟩,
  ⟨some 49, .mov (.t 48), none, [2]⟩,
  ⟨some 50, .mov (.t 0), some (49, true), [3]⟩,
  ⟨some 51, .mov (.t 1), some (49, true), [3]⟩,
  ⟨some 52, .ia 1 (.t 50) (.t 51), some (49, true), [4, 5, 3]⟩,
  ⟨some 53, .load 1 true (.t 52), some (49, true), [6, 3]⟩,
  ⟨some 54, .mov (.t 0), some (49, true), [3]⟩,
  ⟨some 55, .mov (.t 10), some (49, true), [3]⟩,
  ⟨some 56, .ia 1 (.t 54) (.t 55), some (49, true), [8, 9, 3]⟩,
  ⟨some 57, .load 1 true (.t 56), some (49, true), [10, 3]⟩,
  ⟨some 58, .call (.fn 254) [.t 53, .t 57], some (49, true), [7, 11, 3, 3]⟩,
  ⟨some 59, .pick (.t 49) (.t 58) (.c (.bool false)), none, [3, 12]⟩] [43, 46, 47, 48, 49, 50, 51, 52, 53, 54, 55, 56, 57, 58]
def R_slices_partitionEqualOrdered_6 : AC := .ops false [⟨some 60, .mov (.t 10), none, []⟩,
  ⟨some 61, .bin .sub (.t 60) (.c (.int .i64 1)), none, []⟩,
  ⟨some 10, .mov (.t 61), none, []⟩] [59, 60, 61]
def L_slices_partitionEqualOrdered_2 : AC := (.seq (.seq R_slices_partitionEqualOrdered_5 (.cond (.t 59) .skip (.exit 4))) (.block 5 R_slices_partitionEqualOrdered_6))
def R_slices_partitionEqualOrdered_7 : AC := .ops false [⟨some 62, .mov (.t 9), none, []⟩,
  ⟨some 63, .mov (.t 10), none, []⟩,
  ⟨some 64, .bin .gtr (.t 62) (.t 63), none, []⟩] [59, 62, 63]
def R_slices_partitionEqualOrdered_8 : AC := .ops true [⟨some 65, .mov (.t 0), none, []⟩,
  ⟨some 66, .mov (.t 9), none, []⟩,
  ⟨some 67, .mov (.t 0), none, []⟩,
  ⟨some 68, .mov (.t 10), none, []⟩,
  ⟨some 69, .mov (.t 0), none, []⟩,
  ⟨some 70, .mov (.t 10), none, []⟩,
  ⟨some 71, .ia 1 (.t 69) (.t 70), none, [4, 5]⟩,
  ⟨some 72, .load 1 true (.t 71), none, [6]⟩,
  ⟨some 73, .mov (.t 0), none, []⟩,
  ⟨some 74, .mov (.t 9), none, []⟩,
  ⟨some 75, .ia 1 (.t 73) (.t 74), none, [8, 9]⟩,
  ⟨some 76, .load 1 true (.t 75), none, [10]⟩,
  ⟨some 77, .ia 1 (.t 65) (.t 66), none, [0, 1, 0, 1, 4, 5, 6, 7, 11]⟩,
  ⟨none, .store 1 (.t 77) (.t 72), none, [12, 7, 0, 1, 4, 5, 6, 7, 11]⟩,
  ⟨some 78, .ia 1 (.t 67) (.t 68), none, [2, 3, 0, 1, 2, 3, 4, 5, 6, 7, 8, 9, 10, 11, 12, 13]⟩,
  ⟨none, .store 1 (.t 78) (.t 76), none, [14, 11, 13, 0, 1, 2, 3, 4, 5, 6, 7, 8, 9, 10, 11, 12, 13]⟩] [64, 65, 66, 67, 68, 69, 70, 71, 72, 73, 74, 75, 76, 77, 78]
def R_slices_partitionEqualOrdered_9 : AC := .ops false [⟨some 79, .mov (.t 9), none, []⟩,
  ⟨some 80, .bin .add (.t 79) (.c (.int .i64 1)), none, []⟩,
  ⟨some 9, .mov (.t 80), none, []⟩] [79, 80]
def R_slices_partitionEqualOrdered_10 : AC := .ops false [⟨some 81, .mov (.t 10), none, []⟩,
  ⟨some 82, .bin .sub (.t 81) (.c (.int .i64 1)), none, []⟩,
  ⟨some 10, .mov (.t 82), none, []⟩] [81, 82]
def L_slices_partitionEqualOrdered_3 : AC := (.block 1 (.seq (.block 2 (.loop L_slices_partitionEqualOrdered_1)) (.seq (.block 4 (.loop L_slices_partitionEqualOrdered_2)) (.seq (.seq R_slices_partitionEqualOrdered_7 (.cond (.t 64) (.exit 0) .skip)) (.seq R_slices_partitionEqualOrdered_8 (.seq R_slices_partitionEqualOrdered_9 R_slices_partitionEqualOrdered_10))))))
def R_slices_partitionEqualOrdered_11 : AC := .ops false [⟨some 83, .mov (.t 9), none, []⟩,
  ⟨some 8, .mov (.t 83), none, []⟩] [0, 1, 9, 10, 64, 83]
def F_slices_partitionEqualOrdered : AFunc := { ntmps := 84, nargs := 4, kills := [[8], [3, 11, 12, 13, 14, 15, 16, 17, 18, 19, 20, 21, 22, 23, 24], [2, 25, 26, 27, 28], [29, 30, 31, 32, 33, 34, 35, 36, 37, 38, 39, 40, 41, 42], [43, 44, 45], [43, 46, 47, 48, 49, 50, 51, 52, 53, 54, 55, 56, 57, 58], [59, 60, 61], [59, 62, 63], [64, 65, 66, 67, 68, 69, 70, 71, 72, 73, 74, 75, 76, 77, 78], [79, 80], [81, 82], [0, 1, 9, 10, 64, 83]], results := [.t 8], body := (.seq R_slices_partitionEqualOrdered_0 (.seq R_slices_partitionEqualOrdered_1 (.seq R_slices_partitionEqualOrdered_2 (.seq (.block 0 (.loop L_slices_partitionEqualOrdered_3)) (.seq R_slices_partitionEqualOrdered_11 .ret))))) }
noncomputable def T304 : { F : AFunc // CT.func [[8], [3, 11, 12, 13, 14, 15, 16, 17, 18, 19, 20, 21, 22, 23, 24], [2, 25, 26, 27, 28], [29, 30, 31, 32, 33, 34, 35, 36, 37, 38, 39, 40, 41, 42], [43, 44, 45], [43, 46, 47, 48, 49, 50, 51, 52, 53, 54, 55, 56, 57, 58], [59, 60, 61], [59, 62, 63], [64, 65, 66, 67, 68, 69, 70, 71, 72, 73, 74, 75, 76, 77, 78], [79, 80], [81, 82], [0, 1, 9, 10, 64, 83]] Tryz.f304 = some F } := ⟨F_slices_partitionEqualOrdered, by kernel_rfl⟩
theorem c304 : Cert 304 T304.1 := cert_of T304.2 Tryz.func304
-- slices.partitionOrdered[int]
def R_slices_partitionOrdered_0 : AC := .ops false [⟨some 8, .mov (.c (.int .i64 0)), none, []⟩,
  ⟨some 9, .mov (.c (.bool false)), none, []⟩] [8, 9]
def R_slices_partitionOrdered_1 : AC := .ops true [⟨some 12, .mov (.t 0), none, []⟩,
  ⟨some 13, .mov (.t 1), none, []⟩,
  ⟨some 14, .mov (.t 0), none, []⟩,
  ⟨some 15, .mov (.t 3), none, []⟩,
  ⟨some 16, .mov (.t 0), none, []⟩,
  ⟨some 17, .mov (.t 3), none, []⟩,
  ⟨some 18, .ia 1 (.t 16) (.t 17), none, [4, 5]⟩,
  ⟨some 19, .load 1 true (.t 18), none, [6]⟩,
  ⟨some 20, .mov (.t 0), none, []⟩,
  ⟨some 21, .mov (.t 1), none, []⟩,
  ⟨some 22, .ia 1 (.t 20) (.t 21), none, [8, 9]⟩,
  ⟨some 23, .load 1 true (.t 22), none, [10]⟩,
  ⟨some 24, .ia 1 (.t 12) (.t 13), none, [0, 1, 0, 1, 4, 5, 6, 7, 11]⟩,
  ⟨none, .store 1 (.t 24) (.t 19), none, [12, 7, 0, 1, 4, 5, 6, 7, 11]⟩,
  ⟨some 25, .ia 1 (.t 14) (.t 15), none, [2, 3, 0, 1, 2, 3, 4, 5, 6, 7, 8, 9, 10, 11, 12, 13]⟩,
  ⟨none, .store 1 (.t 25) (.t 23), none, [14, 11, 13, 0, 1, 2, 3, 4, 5, 6, 7, 8, 9, 10, 11, 12, 13]⟩] [3, 12, 13, 14, 15, 16, 17, 18, 19, 20, 21, 22, 23, 24, 25]
def R_slices_partitionOrdered_2 : AC := .ops false [⟨some 26, .mov (.t 1), none, []⟩,
  ⟨some 27, .bin .add (.t 26) (.c (.int .i64 1)), none, []⟩,
  ⟨some 28, .mov (.t 2), none, []⟩,
  ⟨some 29, .bin .sub (.t 28) (.c (.int .i64 1)), none, []⟩,
  ⟨some 10, .mov (.t 27), none, []⟩,
  ⟨some 11, .mov (.t 29), none, []⟩] [2, 26, 27, 28, 29]
def R_slices_partitionOrdered_3 : AC := .ops true [⟨some 30, .mov (.t 10), none, []⟩,
  ⟨some 31, .mov (.t 11), none, []⟩,
  ⟨some 32, .bin .leq (.t 30) (.t 31), none, [0, 1]⟩,
  ⟨some 33, .mov (.t 32), none, [2]⟩,
  ⟨some 34, .mov (.t 0), some (33, true), [3]⟩,
  ⟨some 35, .mov (.t 10), some (33, true), [3]⟩,
  ⟨some 36, .ia 1 (.t 34) (.t 35), some (33, true), [4, 5, 3]⟩,
  ⟨some 37, .load 1 true (.t 36), some (33, true), [6, 3]⟩,
  ⟨some 38, .mov (.t 0), some (33, true), [3]⟩,
  ⟨some 39, .mov (.t 1), some (33, true), [3]⟩,
  ⟨some 40, .ia 1 (.t 38) (.t 39), some (33, true), [8, 9, 3]⟩,
  ⟨some 41, .load 1 true (.t 40), some (33, true), [10, 3]⟩,
  ⟨some 42, .call (.fn 254) [.t 37, .t 41], some (33, true), [7, 11, 3, 3]⟩,
  ⟨some 43, .pick (.t 33) (.t 42) (.c (.bool false)), none, [3, 12]⟩] [30, 31, 32, 33, 34, 35, 36, 37, 38, 39, 40, 41, 42]
def R_slices_partitionOrdered_4 : AC := .ops false [⟨some 44, .mov (.t 10), none, []⟩,
  ⟨some 45, .bin .add (.t 44) (.c (.int .i64 1)), none, []⟩,
  ⟨some 10, .mov (.t 45), none, []⟩] [43, 44, 45]
def L_slices_partitionOrdered_1 : AC := (.seq (.seq R_slices_partitionOrdered_3 (.cond (.t 43) .skip (.exit 0))) (.block 1 R_slices_partitionOrdered_4))
def R_slices_partitionOrdered_5 : AC := .ops true [⟨some 46, .mov (.t 10), none, []⟩,
  ⟨some 47, .mov (.t 11), none, []⟩,
  ⟨some 48, .bin .leq (.t 46) (.t 47), none, [0, 1]⟩,
  ⟨some 49, .mov (.t 48), none, [2]⟩,
  ⟨some 50, .mov (.t 0), some (49, true), [3]⟩,
  ⟨some 51, .mov (.t 11), some (49, true), [3]⟩,
  ⟨some 52, .ia 1 (.t 50) (.t 51), some (49, true), [4, 5, 3]⟩,
  ⟨some 53, .load 1 true (.t 52), some (49, true), [6, 3]⟩,
  ⟨some 54, .mov (.t 0), some (49, true), [3]⟩,
  ⟨some 55, .mov (.t 1), some (49, true), [3]⟩,
  ⟨some 56, .ia 1 (.t 54) (.t 55), some (49, true), [8, 9, 3]⟩,
  ⟨some 57, .load 1 true (.t 56), some (49, true), [10, 3]⟩,
  ⟨some 58, .call (.fn 254) [.t 53, .t 57], some (49, true), [7, 11, 3, 3]⟩,
  ⟨some 59, .un .not (.t 58), some (49, true), [12, 3]⟩,
  ⟨some 60, .pick (.t 49) (.t 59) (.c (.bool false)), none, [3, 13]⟩] [43, 46, 47, 48, 49, 50, 51, 52, 53, 54, 55, 56, 57, 58, 59]
def R_slices_partitionOrdered_6 : AC := .ops false [⟨some 61, .mov (.t 11), none, []⟩,
  ⟨some 62, .bin .sub (.t 61) (.c (.int .i64 1)), none, []⟩,
  ⟨some 11, .mov (.t 62), none, []⟩] [60, 61, 62]
def L_slices_partitionOrdered_2 : AC := (.seq (.seq R_slices_partitionOrdered_5 (.cond (.t 60) .skip (.exit 2))) (.block 3 R_slices_partitionOrdered_6))
def R_slices_partitionOrdered_7 : AC := .ops false [⟨some 63, .mov (.t 10), none, []⟩,
  ⟨some 64, .mov (.t 11), none, []⟩,
  ⟨some 65, .bin .gtr (.t 63) (.t 64), none, []⟩] [60, 63, 64]
def R_slices_partitionOrdered_8 : AC := .ops true [⟨some 66, .mov (.t 0), none, []⟩,
  ⟨some 67, .mov (.t 11), none, []⟩,
  ⟨some 68, .mov (.t 0), none, []⟩,
  ⟨some 69, .mov (.t 1), none, []⟩,
  ⟨some 70, .mov (.t 0), none, []⟩,
  ⟨some 71, .mov (.t 1), none, []⟩,
  ⟨some 72, .ia 1 (.t 70) (.t 71), none, [4, 5]⟩,
  ⟨some 73, .load 1 true (.t 72), none, [6]⟩,
  ⟨some 74, .mov (.t 0), none, []⟩,
  ⟨some 75, .mov (.t 11), none, []⟩,
  ⟨some 76, .ia 1 (.t 74) (.t 75), none, [8, 9]⟩,
  ⟨some 77, .load 1 true (.t 76), none, [10]⟩,
  ⟨some 78, .ia 1 (.t 66) (.t 67), none, [0, 1, 0, 1, 4, 5, 6, 7, 11]⟩,
  ⟨none, .store 1 (.t 78) (.t 73), none, [12, 7, 0, 1, 4, 5, 6, 7, 11]⟩,
  ⟨some 79, .ia 1 (.t 68) (.t 69), none, [2, 3, 0, 1, 2, 3, 4, 5, 6, 7, 8, 9, 10, 11, 12, 13]⟩,
  ⟨none, .store 1 (.t 79) (.t 77), none, [14, 11, 13, 0, 1, 2, 3, 4, 5, 6, 7, 8, 9, 10, 11, 12, 13]⟩] [0, 1, 10, 65, 66, 67, 68, 69, 70, 71, 72, 73, 74, 75, 76, 77, 78, 79]
def R_slices_partitionOrdered_9 : AC := .ops false [⟨some 80, .mov (.t 11), none, []⟩,
  ⟨some 8, .mov (.t 80), none, []⟩,
  ⟨some 9, .mov (.c (.bool true)), none, []⟩] [11, 80]
def R_slices_partitionOrdered_10 : AC := .ops true [⟨some 81, .mov (.t 0), none, []⟩,
  ⟨some 82, .mov (.t 10), none, []⟩,
  ⟨some 83, .mov (.t 0), none, []⟩,
  ⟨some 84, .mov (.t 11), none, []⟩,
  ⟨some 85, .mov (.t 0), none, []⟩,
  ⟨some 86, .mov (.t 11), none, []⟩,
  ⟨some 87, .ia 1 (.t 85) (.t 86), none, [4, 5]⟩,
  ⟨some 88, .load 1 true (.t 87), none, [6]⟩,
  ⟨some 89, .mov (.t 0), none, []⟩,
  ⟨some 90, .mov (.t 10), none, []⟩,
  ⟨some 91, .ia 1 (.t 89) (.t 90), none, [8, 9]⟩,
  ⟨some 92, .load 1 true (.t 91), none, [10]⟩,
  ⟨some 93, .ia 1 (.t 81) (.t 82), none, [0, 1, 0, 1, 4, 5, 6, 7, 11]⟩,
  ⟨none, .store 1 (.t 93) (.t 88), none, [12, 7, 0, 1, 4, 5, 6, 7, 11]⟩,
  ⟨some 94, .ia 1 (.t 83) (.t 84), none, [2, 3, 0, 1, 2, 3, 4, 5, 6, 7, 8, 9, 10, 11, 12, 13]⟩,
  ⟨none, .store 1 (.t 94) (.t 92), none, [14, 11, 13, 0, 1, 2, 3, 4, 5, 6, 7, 8, 9, 10, 11, 12, 13]⟩] [65, 81, 82, 83, 84, 85, 86, 87, 88, 89, 90, 91, 92, 93, 94]
def R_slices_partitionOrdered_11 : AC := .ops false [⟨some 95, .mov (.t 10), none, []⟩,
  ⟨some 96, .bin .add (.t 95) (.c (.int .i64 1)), none, []⟩,
  ⟨some 10, .mov (.t 96), none, []⟩] [95, 96]
def R_slices_partitionOrdered_12 : AC := .ops false [⟨some 97, .mov (.t 11), none, []⟩,
  ⟨some 98, .bin .sub (.t 97) (.c (.int .i64 1)), none, []⟩,
  ⟨some 11, .mov (.t 98), none, []⟩] [97, 98]
def R_slices_partitionOrdered_13 : AC := .ops true [⟨some 99, .mov (.t 10), none, []⟩,
  ⟨some 100, .mov (.t 11), none, []⟩,
  ⟨some 101, .bin .leq (.t 99) (.t 100), none, [0, 1]⟩,
  ⟨some 102, .mov (.t 101), none, [2]⟩,
  ⟨some 103, .mov (.t 0), some (102, true), [3]⟩,
  ⟨some 104, .mov (.t 10), some (102, true), [3]⟩,
  ⟨some 105, .ia 1 (.t 103) (.t 104), some (102, true), [4, 5, 3]⟩,
  ⟨some 106, .load 1 true (.t 105), some (102, true), [6, 3]⟩,
  ⟨some 107, .mov (.t 0), some (102, true), [3]⟩,
  ⟨some 108, .mov (.t 1), some (102, true), [3]⟩,
  ⟨some 109, .ia 1 (.t 107) (.t 108), some (102, true), [8, 9, 3]⟩,
  ⟨some 110, .load 1 true (.t 109), some (102, true), [10, 3]⟩,
  ⟨some 111, .call (.fn 254) [.t 106, .t 110], some (102, true), [7, 11, 3, 3]⟩,
  ⟨some 112, .pick (.t 102) (.t 111) (.c (.bool false)), none, [3, 12]⟩] [99, 100, 101, 102, 103, 104, 105, 106, 107, 108, 109, 110, 111]
def R_slices_partitionOrdered_14 : AC := .ops false [⟨some 113, .mov (.t 10), none, []⟩,
  ⟨some 114, .bin .add (.t 113) (.c (.int .i64 1)), none, []⟩,
  ⟨some 10, .mov (.t 114), none, []⟩] [112, 113, 114]
def L_slices_partitionOrdered_3 : AC := (.seq (.seq R_slices_partitionOrdered_13 (.cond (.t 112) .skip (.exit 6))) (.block 7 R_slices_partitionOrdered_14))
def R_slices_partitionOrdered_15 : AC := .ops true [⟨some 115, .mov (.t 10), none, []⟩,
  ⟨some 116, .mov (.t 11), none, []⟩,
  ⟨some 117, .bin .leq (.t 115) (.t 116), none, [0, 1]⟩,
  ⟨some 118, .mov (.t 117), none, [2]⟩,
  ⟨some 119, .mov (.t 0), some (118, true), [3]⟩,
  ⟨some 120, .mov (.t 11), some (118, true), [3]⟩,
  ⟨some 121, .ia 1 (.t 119) (.t 120), some (118, true), [4, 5, 3]⟩,
  ⟨some 122, .load 1 true (.t 121), some (118, true), [6, 3]⟩,
  ⟨some 123, .mov (.t 0), some (118, true), [3]⟩,
  ⟨some 124, .mov (.t 1), some (118, true), [3]⟩,
  ⟨some 125, .ia 1 (.t 123) (.t 124), some (118, true), [8, 9, 3]⟩,
  ⟨some 126, .load 1 true (.t 125), some (118, true), [10, 3]⟩,
  ⟨some 127, .call (.fn 254) [.t 122, .t 126], some (118, true), [7, 11, 3, 3]⟩,
  ⟨some 128, .un .not (.t 127), some (118, true), [12, 3]⟩,
  ⟨some 129, .pick (.t 118) (.t 128) (.c (.bool false)), none, [3, 13]⟩] [112, 115, 116, 117, 118, 119, 120, 121, 122, 123, 124, 125, 126, 127, 128]
def R_slices_partitionOrdered_16 : AC := .ops false [⟨some 130, .mov (.t 11), none, []⟩,
  ⟨some 131, .bin .sub (.t 130) (.c (.int .i64 1)), none, []⟩,
  ⟨some 11, .mov (.t 131), none, []⟩] [129, 130, 131]
def L_slices_partitionOrdered_4 : AC := (.seq (.seq R_slices_partitionOrdered_15 (.cond (.t 129) .skip (.exit 8))) (.block 9 R_slices_partitionOrdered_16))
def R_slices_partitionOrdered_17 : AC := .ops false [⟨some 132, .mov (.t 10), none, []⟩,
  ⟨some 133, .mov (.t 11), none, []⟩,
  ⟨some 134, .bin .gtr (.t 132) (.t 133), none, []⟩] [129, 132, 133]
def R_slices_partitionOrdered_18 : AC := .ops true [⟨some 135, .mov (.t 0), none, []⟩,
  ⟨some 136, .mov (.t 10), none, []⟩,
  ⟨some 137, .mov (.t 0), none, []⟩,
  ⟨some 138, .mov (.t 11), none, []⟩,
  ⟨some 139, .mov (.t 0), none, []⟩,
  ⟨some 140, .mov (.t 11), none, []⟩,
  ⟨some 141, .ia 1 (.t 139) (.t 140), none, [4, 5]⟩,
  ⟨some 142, .load 1 true (.t 141), none, [6]⟩,
  ⟨some 143, .mov (.t 0), none, []⟩,
  ⟨some 144, .mov (.t 10), none, []⟩,
  ⟨some 145, .ia 1 (.t 143) (.t 144), none, [8, 9]⟩,
  ⟨some 146, .load 1 true (.t 145), none, [10]⟩,
  ⟨some 147, .ia 1 (.t 135) (.t 136), none, [0, 1, 0, 1, 4, 5, 6, 7, 11]⟩,
  ⟨none, .store 1 (.t 147) (.t 142), none, [12, 7, 0, 1, 4, 5, 6, 7, 11]⟩,
  ⟨some 148, .ia 1 (.t 137) (.t 138), none, [2, 3, 0, 1, 2, 3, 4, 5, 6, 7, 8, 9, 10, 11, 12, 13]⟩,
  ⟨none, .store 1 (.t 148) (.t 146), none, [14, 11, 13, 0, 1, 2, 3, 4, 5, 6, 7, 8, 9, 10, 11, 12, 13]⟩] [134, 135, 136, 137, 138, 139, 140, 141, 142, 143, 144, 145, 146, 147, 148]
def R_slices_partitionOrdered_19 : AC := .ops false [⟨some 149, .mov (.t 10), none, []⟩,
  ⟨some 150, .bin .add (.t 149) (.c (.int .i64 1)), none, []⟩,
  ⟨some 10, .mov (.t 150), none, []⟩] [149, 150]
def R_slices_partitionOrdered_20 : AC := .ops false [⟨some 151, .mov (.t 11), none, []⟩,
  ⟨some 152, .bin .sub (.t 151) (.c (.int .i64 1)), none, []⟩,
  ⟨some 11, .mov (.t 152), none, []⟩] [151, 152]
def L_slices_partitionOrdered_5 : AC := (.block 5 (.seq (.block 6 (.loop L_slices_partitionOrdered_3)) (.seq (.block 8 (.loop L_slices_partitionOrdered_4)) (.seq (.seq R_slices_partitionOrdered_17 (.cond (.t 134) (.exit 4) .skip)) (.seq R_slices_partitionOrdered_18 (.seq R_slices_partitionOrdered_19 R_slices_partitionOrdered_20))))))
def R_slices_partitionOrdered_21 : AC := .ops true [⟨some 153, .mov (.t 0), none, []⟩,
  ⟨some 154, .mov (.t 11), none, []⟩,
  ⟨some 155, .mov (.t 0), none, []⟩,
  ⟨some 156, .mov (.t 1), none, []⟩,
  ⟨some 157, .mov (.t 0), none, []⟩,
  ⟨some 158, .mov (.t 1), none, []⟩,
  ⟨some 159, .ia 1 (.t 157) (.t 158), none, [4, 5]⟩,
  ⟨some 160, .load 1 true (.t 159), none, [6]⟩,
  ⟨some 161, .mov (.t 0), none, []⟩,
  ⟨some 162, .mov (.t 11), none, []⟩,
  ⟨some 163, .ia 1 (.t 161) (.t 162), none, [8, 9]⟩,
  ⟨some 164, .load 1 true (.t 163), none, [10]⟩,
  ⟨some 165, .ia 1 (.t 153) (.t 154), none, [0, 1, 0, 1, 4, 5, 6, 7, 11]⟩,
  ⟨none, .store 1 (.t 165) (.t 160), none, [12, 7, 0, 1, 4, 5, 6, 7, 11]⟩,
  ⟨some 166, .ia 1 (.t 155) (.t 156), none, [2, 3, 0, 1, 2, 3, 4, 5, 6, 7, 8, 9, 10, 11, 12, 13]⟩,
  ⟨none, .store 1 (.t 166) (.t 164), none, [14, 11, 13, 0, 1, 2, 3, 4, 5, 6, 7, 8, 9, 10, 11, 12, 13]⟩] [0, 1, 10, 134, 153, 154, 155, 156, 157, 158, 159, 160, 161, 162, 163, 164, 165, 166]
def R_slices_partitionOrdered_22 : AC := .ops false [⟨some 167, .mov (.t 11), none, []⟩,
  ⟨some 8, .mov (.t 167), none, []⟩,
  ⟨some 9, .mov (.c (.bool false)), none, []⟩] [11, 167]
def F_slices_partitionOrdered : AFunc := { ntmps := 168, nargs := 4, kills := [[8, 9], [3, 12, 13, 14, 15, 16, 17, 18, 19, 20, 21, 22, 23, 24, 25], [2, 26, 27, 28, 29], [30, 31, 32, 33, 34, 35, 36, 37, 38, 39, 40, 41, 42], [43, 44, 45], [43, 46, 47, 48, 49, 50, 51, 52, 53, 54, 55, 56, 57, 58, 59], [60, 61, 62], [60, 63, 64], [0, 1, 10, 65, 66, 67, 68, 69, 70, 71, 72, 73, 74, 75, 76, 77, 78, 79], [11, 80], [65, 81, 82, 83, 84, 85, 86, 87, 88, 89, 90, 91, 92, 93, 94], [95, 96], [97, 98], [99, 100, 101, 102, 103, 104, 105, 106, 107, 108, 109, 110, 111], [112, 113, 114], [112, 115, 116, 117, 118, 119, 120, 121, 122, 123, 124, 125, 126, 127, 128], [129, 130, 131], [129, 132, 133], [134, 135, 136, 137, 138, 139, 140, 141, 142, 143, 144, 145, 146, 147, 148], [149, 150], [151, 152], [0, 1, 10, 134, 153, 154, 155, 156, 157, 158, 159, 160, 161, 162, 163, 164, 165, 166], [11, 167]], results := [.t 8, .t 9], body := (.seq R_slices_partitionOrdered_0 (.seq R_slices_partitionOrdered_1 (.seq R_slices_partitionOrdered_2 (.seq (.block 0 (.loop L_slices_partitionOrdered_1)) (.seq (.block 2 (.loop L_slices_partitionOrdered_2)) (.seq (.seq R_slices_partitionOrdered_7 (.cond (.t 65) (.seq R_slices_partitionOrdered_8 (.seq R_slices_partitionOrdered_9 .ret)) .skip)) (.seq R_slices_partitionOrdered_10 (.seq R_slices_partitionOrdered_11 (.seq R_slices_partitionOrdered_12 (.seq (.block 4 (.loop L_slices_partitionOrdered_5)) (.seq R_slices_partitionOrdered_21 (.seq R_slices_partitionOrdered_22 .ret)))))))))))) }
noncomputable def T305 : { F : AFunc // CT.func [[8, 9], [3, 12, 13, 14, 15, 16, 17, 18, 19, 20, 21, 22, 23, 24, 25], [2, 26, 27, 28, 29], [30, 31, 32, 33, 34, 35, 36, 37, 38, 39, 40, 41, 42], [43, 44, 45], [43, 46, 47, 48, 49, 50, 51, 52, 53, 54, 55, 56, 57, 58, 59], [60, 61, 62], [60, 63, 64], [0, 1, 10, 65, 66, 67, 68, 69, 70, 71, 72, 73, 74, 75, 76, 77, 78, 79], [11, 80], [65, 81, 82, 83, 84, 85, 86, 87, 88, 89, 90, 91, 92, 93, 94], [95, 96], [97, 98], [99, 100, 101, 102, 103, 104, 105, 106, 107, 108, 109, 110, 111], [112, 113, 114], [112, 115, 116, 117, 118, 119, 120, 121, 122, 123, 124, 125, 126, 127, 128], [129, 130, 131], [129, 132, 133], [134, 135, 136, 137, 138, 139, 140, 141, 142, 143, 144, 145, 146, 147, 148], [149, 150], [151, 152], [0, 1, 10, 134, 153, 154, 155, 156, 157, 158, 159, 160, 161, 162, 163, 164, 165, 166], [11, 167]] Tryz.f305 = some F } := ⟨F_slices_partitionOrdered, by kernel_rfl⟩
theorem c305 : Cert 305 T305.1 := cert_of T305.2 Tryz.func305
-- math/bits.Len64
noncomputable def T306 : { F : AFunc // CT.func [[], [3], [2, 4, 5, 6], [], [4, 7], [8, 9, 10], [11, 12], [8, 13], [14, 15, 16], [17, 18], [0, 14, 19, 20, 21, 22, 23, 24]] Tryz.f306 = some F } := by
  refine ⟨?F, ?h⟩
  case h =>
    conv => lhs; cbv
theorem c306 : Cert 306 T306.1 := cert_of T306.2 Tryz.func306
-- math/bits.Mul32
noncomputable def T307 : { F : AFunc // CT.func [[4, 5], [0, 1, 7, 8, 9, 10, 11], [6, 12, 13, 14, 15, 16]] Tryz.f307 = some F } := by
  refine ⟨?F, ?h⟩
  case h =>
    conv => lhs; cbv
theorem c307 : Cert 307 T307.1 := cert_of T307.2 Tryz.func307
end Go.Proofs.YtmkaekblmbjhpaaGreat
