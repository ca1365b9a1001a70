/- The functions in the abstract language, worked out by Lean. -/
import Derived.Test.YtaehkmmlacpleaaAlX
set_option linter.unusedVariables false
set_option maxHeartbeats 1000000
set_option maxRecDepth 100000
namespace Go.Proofs.Ytaehkmmlacpleaa
-- slices.EqualFunc[[]suffrage/api.Tie,[]suffrage/api.Tie,suffrage/api.Tie,suffrage/api.Tie]
noncomputable def T35 : { F : AFunc // CT.func [[6], [10, 11, 12, 13], [0, 1, 2, 14], [0, 14], [], [18, 19, 20, 21], [7, 22, 23, 24, 25], [8, 9, 26, 27, 28, 29], [1, 2, 15, 16, 17, 30], [30, 31], [1, 2, 15, 16, 17, 18]] Try.f35 = some F } := by
  refine ⟨?F, ?h⟩
  case h =>
    conv => lhs; cbv
theorem c35 : Cert 35 T35.1 := cert_of T35.2 Try.func35
-- slices.Clone[[]suffrage/api.Ratio,suffrage/api.Ratio]
noncomputable def T36 : { F : AFunc // CT.func [[2], [3], [0, 4], [0, 4, 5, 6, 7]] Try.f36 = some F } := by
  refine ⟨?F, ?h⟩
  case h =>
    conv => lhs; cbv
theorem c36 : Cert 36 T36.1 := cert_of T36.2 Try.func36
-- slices.Clone[[]uint32,uint32]
noncomputable def T37 : { F : AFunc // CT.func [[2], [3], [0, 4], [0, 4, 5, 6, 7]] Try.f37 = some F } := by
  refine ⟨?F, ?h⟩
  case h =>
    conv => lhs; cbv
theorem c37 : Cert 37 T37.1 := cert_of T37.2 Try.func37
-- slices.Sorted[int]
noncomputable def T38 : { F : AFunc // CT.func [[2], [0, 4, 5], [6, 7], [3, 8]] Try.f38 = some F } := by
  refine ⟨?F, ?h⟩
  case h =>
    conv => lhs; cbv
theorem c38 : Cert 38 T38.1 := cert_of T38.2 Try.func38
-- slices.Values[[]int,int]
noncomputable def T39 : { F : AFunc // CT.func [[0, 2], [1, 3]] Try.f39 = some F } := by
  refine ⟨?F, ?h⟩
  case h =>
    conv => lhs; cbv
theorem c39 : Cert 39 T39.1 := cert_of T39.2 Try.func39
-- suffrage/count.fits$1
noncomputable def T40 : { F : AFunc // CT.func [[3], [0, 1, 4, 5, 6, 7]] Try.f40 = some F } := by
  refine ⟨?F, ?h⟩
  case h =>
    conv => lhs; cbv
theorem c40 : Cert 40 T40.1 := cert_of T40.2 Try.func40
-- slices.ContainsFunc[[]int,int]
noncomputable def T41 : { F : AFunc // CT.func [[4], [0, 1, 5, 6, 7, 8]] Try.f41 = some F } := by
  refine ⟨?F, ?h⟩
  case h =>
    conv => lhs; cbv
theorem c41 : Cert 41 T41.1 := cert_of T41.2 Try.func41
-- suffrage/count.fits$1$1
noncomputable def T42 : { F : AFunc // CT.func [[3], [0, 1, 4, 5, 6, 7, 8, 9, 10]] Try.f42 = some F } := by
  refine ⟨?F, ?h⟩
  case h =>
    conv => lhs; cbv
theorem c42 : Cert 42 T42.1 := cert_of T42.2 Try.func42
-- slices.pdqsortOrdered[int]
def R_slices_pdqsortOrdered_0 : AC := .ops false [⟨some 8, .mov (.c (.bool true)), none, []⟩] []
def R_slices_pdqsortOrdered_1 : AC := .ops false [⟨some 9, .mov (.c (.bool true)), none, []⟩] []
def R_slices_pdqsortOrdered_2 : AC := .ops false [⟨some 19, .mov (.t 2), none, []⟩,
  ⟨some 20, .mov (.t 1), none, []⟩,
  ⟨some 21, .bin .sub (.t 19) (.t 20), none, []⟩,
  ⟨some 10, .mov (.t 21), none, []⟩] [19, 20, 21]
def R_slices_pdqsortOrdered_3 : AC := .ops false [⟨some 22, .mov (.t 10), none, []⟩,
  ⟨some 23, .bin .leq (.t 22) (.c (.int .i64 12)), none, []⟩] [22]
def R_slices_pdqsortOrdered_4 : AC := .ops false [⟨some 24, .mov (.t 0), none, []⟩,
  ⟨some 25, .mov (.t 1), none, []⟩,
  ⟨some 26, .mov (.t 2), none, []⟩,
  ⟨some 27, .call (.fn 52) [.t 24, .t 25, .t 26], none, []⟩] [0, 1, 2, 3, 8, 9, 10, 23, 24, 25, 26, 27]
def R_slices_pdqsortOrdered_5 : AC := .ops false [⟨some 28, .mov (.t 3), none, []⟩,
  ⟨some 29, .bin .eql (.t 28) (.c (.int .i64 0)), none, []⟩] [23, 28]
def R_slices_pdqsortOrdered_6 : AC := .ops false [⟨some 30, .mov (.t 0), none, []⟩,
  ⟨some 31, .mov (.t 1), none, []⟩,
  ⟨some 32, .mov (.t 2), none, []⟩,
  ⟨some 33, .call (.fn 53) [.t 30, .t 31, .t 32], none, []⟩] [0, 1, 2, 3, 8, 9, 10, 29, 30, 31, 32, 33]
def R_slices_pdqsortOrdered_7 : AC := .ops false [⟨some 34, .mov (.t 8), none, []⟩,
  ⟨some 35, .un .not (.t 34), none, []⟩] [29, 34]
def R_slices_pdqsortOrdered_8 : AC := .ops false [⟨some 36, .mov (.t 0), none, []⟩,
  ⟨some 37, .mov (.t 1), none, []⟩,
  ⟨some 38, .mov (.t 2), none, []⟩,
  ⟨some 39, .call (.fn 54) [.t 36, .t 37, .t 38], none, []⟩] [35, 36, 37, 38, 39]
def R_slices_pdqsortOrdered_9 : AC := .ops false [⟨some 40, .mov (.t 3), none, []⟩,
  ⟨some 41, .bin .sub (.t 40) (.c (.int .i64 1)), none, []⟩,
  ⟨some 3, .mov (.t 41), none, []⟩] [40, 41]
def R_slices_pdqsortOrdered_10 : AC := .ops false [⟨some 43, .mov (.t 0), none, []⟩,
  ⟨some 44, .mov (.t 1), none, []⟩,
  ⟨some 45, .mov (.t 2), none, []⟩,
  ⟨some 46, .call (.fn 55) [.t 43, .t 44, .t 45], none, []⟩,
  ⟨some 42, .mov (.t 46), none, []⟩,
  ⟨some 47, .ext (.t 42) 0, none, []⟩,
  ⟨some 48, .ext (.t 42) 1, none, []⟩,
  ⟨some 11, .mov (.t 47), none, []⟩,
  ⟨some 12, .mov (.t 48), none, []⟩] [35, 42, 43, 44, 45, 46, 47, 48]
def R_slices_pdqsortOrdered_11 : AC := .ops false [⟨some 49, .mov (.t 12), none, []⟩,
  ⟨some 50, .bin .eql (.t 49) (.c (.int .i64 2)), none, []⟩] [49]
def R_slices_pdqsortOrdered_12 : AC := .ops false [⟨some 51, .mov (.t 0), none, []⟩,
  ⟨some 52, .mov (.t 1), none, []⟩,
  ⟨some 53, .mov (.t 2), none, []⟩,
  ⟨some 54, .call (.fn 56) [.t 51, .t 52, .t 53], none, []⟩] [12, 50, 51, 52, 53, 54]
def R_slices_pdqsortOrdered_13 : AC := .ops false [⟨some 55, .mov (.t 2), none, []⟩,
  ⟨some 56, .bin .sub (.t 55) (.c (.int .i64 1)), none, []⟩,
  ⟨some 57, .mov (.t 11), none, []⟩,
  ⟨some 58, .mov (.t 1), none, []⟩,
  ⟨some 59, .bin .sub (.t 57) (.t 58), none, []⟩,
  ⟨some 60, .bin .sub (.t 56) (.t 59), none, []⟩,
  ⟨some 11, .mov (.t 60), none, []⟩] [55, 56, 57, 58, 59, 60]
def R_slices_pdqsortOrdered_14 : AC := .ops false [⟨some 12, .mov (.c (.int .i64 1)), none, []⟩] []
def R_slices_pdqsortOrdered_15 : AC := .ops false [⟨some 61, .mov (.t 8), none, []⟩,
  ⟨some 62, .mov (.t 61), none, []⟩,
  ⟨some 63, .mov (.t 9), some (62, true), []⟩,
  ⟨some 64, .pick (.t 62) (.t 63) (.c (.bool false)), none, []⟩,
  ⟨some 65, .mov (.t 64), none, []⟩,
  ⟨some 66, .mov (.t 12), some (65, true), []⟩,
  ⟨some 67, .bin .eql (.t 66) (.c (.int .i64 1)), some (65, true), []⟩,
  ⟨some 68, .pick (.t 65) (.t 67) (.c (.bool false)), none, []⟩] [12, 50, 61, 62, 63, 64, 65, 66, 67]
def R_slices_pdqsortOrdered_16 : AC := .ops false [⟨some 69, .mov (.t 0), none, []⟩,
  ⟨some 70, .mov (.t 1), none, []⟩,
  ⟨some 71, .mov (.t 2), none, []⟩,
  ⟨some 72, .call (.fn 57) [.t 69, .t 70, .t 71], none, []⟩] [68, 69, 70, 71]
def R_slices_pdqsortOrdered_17 : AC := .ops true [⟨some 73, .mov (.t 1), none, []⟩,
  ⟨some 74, .bin .gtr (.t 73) (.c (.int .i64 0)), none, [0]⟩,
  ⟨some 75, .mov (.t 74), none, [1]⟩,
  ⟨some 76, .mov (.t 0), some (75, true), [2]⟩,
  ⟨some 77, .mov (.t 1), some (75, true), [2]⟩,
  ⟨some 78, .bin .sub (.t 77) (.c (.int .i64 1)), some (75, true), [4, 2]⟩,
  ⟨some 79, .ia 1 (.t 76) (.t 78), some (75, true), [3, 5, 2]⟩,
  ⟨some 80, .load 1 true (.t 79), some (75, true), [6, 2]⟩,
  ⟨some 81, .mov (.t 0), some (75, true), [2]⟩,
  ⟨some 82, .mov (.t 11), some (75, true), [2]⟩,
  ⟨some 83, .ia 1 (.t 81) (.t 82), some (75, true), [8, 9, 2]⟩,
  ⟨some 84, .load 1 true (.t 83), some (75, true), [10, 2]⟩,
  ⟨some 85, .call (.fn 58) [.t 80, .t 84], some (75, true), [7, 11, 2, 2]⟩,
  ⟨some 86, .un .not (.t 85), some (75, true), [12, 2]⟩,
  ⟨some 87, .pick (.t 75) (.t 86) (.c (.bool false)), none, [2, 13]⟩] [68, 72, 73, 74, 75, 76, 77, 78, 79, 80, 81, 82, 83, 84, 85, 86]
def R_slices_pdqsortOrdered_18 : AC := .ops false [⟨some 88, .mov (.t 0), none, []⟩,
  ⟨some 89, .mov (.t 1), none, []⟩,
  ⟨some 90, .mov (.t 2), none, []⟩,
  ⟨some 91, .mov (.t 11), none, []⟩,
  ⟨some 92, .call (.fn 59) [.t 88, .t 89, .t 90, .t 91], none, []⟩,
  ⟨some 13, .mov (.t 92), none, []⟩] [1, 10, 11, 87, 88, 89, 90, 91, 92]
def R_slices_pdqsortOrdered_19 : AC := .ops false [⟨some 93, .mov (.t 13), none, []⟩,
  ⟨some 1, .mov (.t 93), none, []⟩] [13, 93]
def R_slices_pdqsortOrdered_20 : AC := .ops false [⟨some 95, .mov (.t 0), none, []⟩,
  ⟨some 96, .mov (.t 1), none, []⟩,
  ⟨some 97, .mov (.t 2), none, []⟩,
  ⟨some 98, .mov (.t 11), none, []⟩,
  ⟨some 99, .call (.fn 60) [.t 95, .t 96, .t 97, .t 98], none, []⟩,
  ⟨some 94, .mov (.t 99), none, []⟩,
  ⟨some 100, .ext (.t 94) 0, none, []⟩,
  ⟨some 101, .ext (.t 94) 1, none, []⟩,
  ⟨some 14, .mov (.t 100), none, []⟩,
  ⟨some 15, .mov (.t 101), none, []⟩] [8, 9, 11, 87, 94, 95, 96, 97, 98, 99, 100, 101]
def R_slices_pdqsortOrdered_21 : AC := .ops false [⟨some 102, .mov (.t 15), none, []⟩,
  ⟨some 9, .mov (.t 102), none, []⟩] [15, 102]
def R_slices_pdqsortOrdered_22 : AC := .ops false [⟨some 103, .mov (.t 14), none, []⟩,
  ⟨some 104, .mov (.t 1), none, []⟩,
  ⟨some 105, .bin .sub (.t 103) (.t 104), none, []⟩,
  ⟨some 106, .mov (.t 2), none, []⟩,
  ⟨some 107, .mov (.t 14), none, []⟩,
  ⟨some 108, .bin .sub (.t 106) (.t 107), none, []⟩,
  ⟨some 16, .mov (.t 105), none, []⟩,
  ⟨some 17, .mov (.t 108), none, []⟩] [103, 104, 105, 106, 107, 108]
def R_slices_pdqsortOrdered_23 : AC := .ops false [⟨some 109, .mov (.t 10), none, []⟩,
  ⟨some 110, .bin .quo (.t 109) (.c (.int .i64 8)), none, []⟩,
  ⟨some 18, .mov (.t 110), none, []⟩] [10, 109, 110]
def R_slices_pdqsortOrdered_24 : AC := .ops false [⟨some 111, .mov (.t 16), none, []⟩,
  ⟨some 112, .mov (.t 17), none, []⟩,
  ⟨some 113, .bin .lss (.t 111) (.t 112), none, []⟩] [111, 112]
def R_slices_pdqsortOrdered_25 : AC := .ops false [⟨some 114, .mov (.t 16), none, []⟩,
  ⟨some 115, .mov (.t 18), none, []⟩,
  ⟨some 116, .bin .geq (.t 114) (.t 115), none, []⟩,
  ⟨some 8, .mov (.t 116), none, []⟩] [16, 17, 18, 113, 114, 115, 116]
def R_slices_pdqsortOrdered_26 : AC := .ops false [⟨some 117, .mov (.t 0), none, []⟩,
  ⟨some 118, .mov (.t 1), none, []⟩,
  ⟨some 119, .mov (.t 14), none, []⟩,
  ⟨some 120, .mov (.t 3), none, []⟩,
  ⟨some 121, .call (.fn 43) [.t 117, .t 118, .t 119, .t 120], none, []⟩] [1, 117, 118, 119, 120, 121]
def R_slices_pdqsortOrdered_27 : AC := .ops false [⟨some 122, .mov (.t 14), none, []⟩,
  ⟨some 123, .bin .add (.t 122) (.c (.int .i64 1)), none, []⟩,
  ⟨some 1, .mov (.t 123), none, []⟩] [14, 122, 123]
def R_slices_pdqsortOrdered_28 : AC := .ops false [⟨some 124, .mov (.t 17), none, []⟩,
  ⟨some 125, .mov (.t 18), none, []⟩,
  ⟨some 126, .bin .geq (.t 124) (.t 125), none, []⟩,
  ⟨some 8, .mov (.t 126), none, []⟩] [16, 17, 18, 113, 124, 125, 126]
def R_slices_pdqsortOrdered_29 : AC := .ops false [⟨some 127, .mov (.t 0), none, []⟩,
  ⟨some 128, .mov (.t 14), none, []⟩,
  ⟨some 129, .bin .add (.t 128) (.c (.int .i64 1)), none, []⟩,
  ⟨some 130, .mov (.t 2), none, []⟩,
  ⟨some 131, .mov (.t 3), none, []⟩,
  ⟨some 132, .call (.fn 43) [.t 127, .t 129, .t 130, .t 131], none, []⟩] [2, 127, 128, 129, 130, 131, 132]
def R_slices_pdqsortOrdered_30 : AC := .ops false [⟨some 133, .mov (.t 14), none, []⟩,
  ⟨some 2, .mov (.t 133), none, []⟩] [14, 133]
def L_slices_pdqsortOrdered_1 : AC := (.block 1 (.seq R_slices_pdqsortOrdered_2 (.seq (.seq R_slices_pdqsortOrdered_3 (.cond (.t 23) (.seq R_slices_pdqsortOrdered_4 .ret) .skip)) (.seq (.seq R_slices_pdqsortOrdered_5 (.cond (.t 29) (.seq R_slices_pdqsortOrdered_6 .ret) .skip)) (.seq (.seq R_slices_pdqsortOrdered_7 (.cond (.t 35) (.seq R_slices_pdqsortOrdered_8 R_slices_pdqsortOrdered_9) .skip)) (.seq R_slices_pdqsortOrdered_10 (.seq (.seq R_slices_pdqsortOrdered_11 (.cond (.t 50) (.seq R_slices_pdqsortOrdered_12 (.seq R_slices_pdqsortOrdered_13 R_slices_pdqsortOrdered_14)) .skip)) (.seq (.seq R_slices_pdqsortOrdered_15 (.cond (.t 68) (.seq R_slices_pdqsortOrdered_16 (.cond (.t 72) .ret .skip)) .skip)) (.seq (.seq R_slices_pdqsortOrdered_17 (.cond (.t 87) (.seq R_slices_pdqsortOrdered_18 (.seq R_slices_pdqsortOrdered_19 (.exit 1))) .skip)) (.seq R_slices_pdqsortOrdered_20 (.seq R_slices_pdqsortOrdered_21 (.seq R_slices_pdqsortOrdered_22 (.seq R_slices_pdqsortOrdered_23 (.seq R_slices_pdqsortOrdered_24 (.cond (.t 113) (.seq R_slices_pdqsortOrdered_25 (.seq R_slices_pdqsortOrdered_26 R_slices_pdqsortOrdered_27)) (.seq R_slices_pdqsortOrdered_28 (.seq R_slices_pdqsortOrdered_29 R_slices_pdqsortOrdered_30)))))))))))))))))
def F_slices_pdqsortOrdered : AFunc := { ntmps := 134, nargs := 4, kills := [[], [], [19, 20, 21], [22], [0, 1, 2, 3, 8, 9, 10, 23, 24, 25, 26, 27], [23, 28], [0, 1, 2, 3, 8, 9, 10, 29, 30, 31, 32, 33], [29, 34], [35, 36, 37, 38, 39], [40, 41], [35, 42, 43, 44, 45, 46, 47, 48], [49], [12, 50, 51, 52, 53, 54], [55, 56, 57, 58, 59, 60], [], [12, 50, 61, 62, 63, 64, 65, 66, 67], [68, 69, 70, 71], [68, 72, 73, 74, 75, 76, 77, 78, 79, 80, 81, 82, 83, 84, 85, 86], [1, 10, 11, 87, 88, 89, 90, 91, 92], [13, 93], [8, 9, 11, 87, 94, 95, 96, 97, 98, 99, 100, 101], [15, 102], [103, 104, 105, 106, 107, 108], [10, 109, 110], [111, 112], [16, 17, 18, 113, 114, 115, 116], [1, 117, 118, 119, 120, 121], [14, 122, 123], [16, 17, 18, 113, 124, 125, 126], [2, 127, 128, 129, 130, 131, 132], [14, 133]], results := [], body := (.seq R_slices_pdqsortOrdered_0 (.seq R_slices_pdqsortOrdered_1 (.block 0 (.loop L_slices_pdqsortOrdered_1)))) }
noncomputable def T43 : { F : AFunc // CT.func [[], [], [19, 20, 21], [22], [0, 1, 2, 3, 8, 9, 10, 23, 24, 25, 26, 27], [23, 28], [0, 1, 2, 3, 8, 9, 10, 29, 30, 31, 32, 33], [29, 34], [35, 36, 37, 38, 39], [40, 41], [35, 42, 43, 44, 45, 46, 47, 48], [49], [12, 50, 51, 52, 53, 54], [55, 56, 57, 58, 59, 60], [], [12, 50, 61, 62, 63, 64, 65, 66, 67], [68, 69, 70, 71], [68, 72, 73, 74, 75, 76, 77, 78, 79, 80, 81, 82, 83, 84, 85, 86], [1, 10, 11, 87, 88, 89, 90, 91, 92], [13, 93], [8, 9, 11, 87, 94, 95, 96, 97, 98, 99, 100, 101], [15, 102], [103, 104, 105, 106, 107, 108], [10, 109, 110], [111, 112], [16, 17, 18, 113, 114, 115, 116], [1, 117, 118, 119, 120, 121], [14, 122, 123], [16, 17, 18, 113, 124, 125, 126], [2, 127, 128, 129, 130, 131, 132], [14, 133]] Try.f43 = some F } := ⟨F_slices_pdqsortOrdered, by kernel_rfl⟩
theorem c43 : Cert 43 T43.1 := cert_of T43.2 Try.func43
-- math/bits.Len
noncomputable def T44 : { F : AFunc // CT.func [[2], [0, 3, 4, 5], [0, 6, 7]] Try.f44 = some F } := by
  refine ⟨?F, ?h⟩
  case h =>
    conv => lhs; cbv
theorem c44 : Cert 44 T44.1 := cert_of T44.2 Try.func44
-- suffrage/suffrageref22.of
noncomputable def T45 : { F : AFunc // CT.func [[4], [], [6, 7, 8], [10, 11, 24], [9, 12, 13, 14, 15, 16, 17, 18, 19, 20, 21, 22, 23], [0, 1, 5, 24], [0, 1, 5, 9]] Try.f45 = some F } := by
  refine ⟨?F, ?h⟩
  case h =>
    conv => lhs; cbv
theorem c45 : Cert 45 T45.1 := cert_of T45.2 Try.func45
-- suffrage/suffrageref04.All
noncomputable def T46 : { F : AFunc // CT.func [[4], [6, 7, 8, 9], [0, 1, 10], [10], [11, 12, 13], [15, 16, 26], [14, 17, 18, 19, 20, 21, 22, 23, 24, 25], [0, 1, 5, 26], [0, 1, 5, 14]] Try.f46 = some F } := by
  refine ⟨?F, ?h⟩
  case h =>
    conv => lhs; cbv
theorem c46 : Cert 46 T46.1 := cert_of T46.2 Try.func46
-- suffrage/suffrageref04.Same
noncomputable def T47 : { F : AFunc // CT.func [[0, 1, 4], [2, 3, 5, 6, 7, 8, 9, 10, 11, 12, 13, 14, 15, 16, 17, 18, 19, 20, 21, 22, 23]] Try.f47 = some F } := by
  refine ⟨?F, ?h⟩
  case h =>
    conv => lhs; cbv
theorem c47 : Cert 47 T47.1 := cert_of T47.2 Try.func47
-- suffrage/nat.Same
noncomputable def T48 : { F : AFunc // CT.func [[4], [0, 1, 5, 6, 7]] Try.f48 = some F } := by
  refine ⟨?F, ?h⟩
  case h =>
    conv => lhs; cbv
theorem c48 : Cert 48 T48.1 := cert_of T48.2 Try.func48
-- slices.Collect[int]
noncomputable def T49 : { F : AFunc // CT.func [[2], [0, 3, 4]] Try.f49 = some F } := by
  refine ⟨?F, ?h⟩
  case h =>
    conv => lhs; cbv
theorem c49 : Cert 49 T49.1 := cert_of T49.2 Try.func49
-- slices.Values[[]int,int]$1
noncomputable def T50 : { F : AFunc // CT.func [[1], [], [8, 9, 10], [4, 11, 12, 13], [14, 15]] Try.f50 = some F } := by
  refine ⟨?F, ?h⟩
  case h =>
    conv => lhs; cbv
theorem c50 : Cert 50 T50.1 := cert_of T50.2 Try.func50
end Go.Proofs.Ytaehkmmlacpleaa
