/- The functions in the abstract language, worked out by Lean. -/
import Derived.Test.YtmkaekblmbjhpaaGreatAlX
set_option linter.unusedVariables false
set_option maxHeartbeats 1000000
set_option maxRecDepth 100000
namespace Go.Proofs.YtmkaekblmbjhpaaGreat
-- math/bits.Mul64
noncomputable def T308 : { F : AFunc // CT.func [[4, 5], [14, 15], [16, 17], [18, 19], [20, 21], [22, 23, 24], [8, 10, 25, 26, 27, 28, 29, 30], [31, 32], [11, 33, 34], [6, 35, 36, 37, 38, 39], [7, 9, 12, 13, 40, 41, 42, 43, 44, 45, 46, 47], [0, 1, 48, 49, 50]] Tryz.f308 = some F } := by
  refine ⟨?F, ?h⟩
  case h =>
    conv => lhs; cbv
theorem c308 : Cert 308 T308.1 := cert_of T308.2 Tryz.func308
-- slices.insertionSortCmpFunc[suffrage/api.Link]
def R_slices_insertionSortCmpFunc_0 : AC := .ops false [⟨some 10, .mov (.t 1), none, []⟩,
  ⟨some 11, .bin .add (.t 10) (.c (.int .i64 1)), none, []⟩,
  ⟨some 8, .mov (.t 11), none, []⟩] [10, 11]
def R_slices_insertionSortCmpFunc_1 : AC := .ops false [⟨some 12, .mov (.t 8), none, []⟩,
  ⟨some 13, .mov (.t 2), none, []⟩,
  ⟨some 14, .bin .lss (.t 12) (.t 13), none, []⟩] [12, 13]
def R_slices_insertionSortCmpFunc_3 : AC := .ops false [⟨some 17, .mov (.t 8), none, []⟩,
  ⟨some 9, .mov (.t 17), none, []⟩] [14, 17]
def R_slices_insertionSortCmpFunc_4 : AC := .ops true [⟨some 18, .mov (.t 9), none, []⟩,
  ⟨some 19, .mov (.t 1), none, []⟩,
  ⟨some 20, .bin .gtr (.t 18) (.t 19), none, [0, 1]⟩,
  ⟨some 21, .mov (.t 20), none, [2]⟩,
  ⟨some 22, .mov (.t 3), some (21, true), [3]⟩,
  ⟨some 23, .mov (.t 0), some (21, true), [3]⟩,
  ⟨some 24, .mov (.t 9), some (21, true), [3]⟩,
  ⟨some 25, .ia 4 (.t 23) (.t 24), some (21, true), [5, 6, 3]⟩,
  ⟨some 26, .load 4 false (.t 25), some (21, true), [7, 3]⟩,
  ⟨some 27, .mov (.t 0), some (21, true), [3]⟩,
  ⟨some 28, .mov (.t 9), some (21, true), [3]⟩,
  ⟨some 29, .bin .sub (.t 28) (.c (.int .i64 1)), some (21, true), [10, 3]⟩,
  ⟨some 30, .ia 4 (.t 27) (.t 29), some (21, true), [9, 11, 3]⟩,
  ⟨some 31, .load 4 false (.t 30), some (21, true), [12, 3]⟩,
  ⟨some 32, .call (.dyn (.t 22)) [.t 26, .t 31], some (21, true), [4, 8, 13, 3, 3]⟩,
  ⟨some 33, .bin .lss (.t 32) (.c (.int .i64 0)), some (21, true), [14, 3]⟩,
  ⟨some 34, .pick (.t 21) (.t 33) (.c (.bool false)), none, [3, 15]⟩] [18, 19, 20, 21, 22, 23, 24, 25, 26, 27, 28, 29, 30, 31, 32, 33]
def R_slices_insertionSortCmpFunc_6 : AC := .ops true [⟨some 37, .mov (.t 0), none, []⟩,
  ⟨some 38, .mov (.t 9), none, []⟩,
  ⟨some 39, .mov (.t 0), none, []⟩,
  ⟨some 40, .mov (.t 9), none, []⟩,
  ⟨some 41, .bin .sub (.t 40) (.c (.int .i64 1)), none, [3]⟩,
  ⟨some 42, .mov (.t 0), none, []⟩,
  ⟨some 43, .mov (.t 9), none, []⟩,
  ⟨some 44, .bin .sub (.t 43) (.c (.int .i64 1)), none, [6]⟩,
  ⟨some 45, .ia 4 (.t 42) (.t 44), none, [5, 7]⟩,
  ⟨some 46, .load 4 false (.t 45), none, [8]⟩,
  ⟨some 47, .mov (.t 0), none, []⟩,
  ⟨some 48, .mov (.t 9), none, []⟩,
  ⟨some 49, .ia 4 (.t 47) (.t 48), none, [10, 11]⟩,
  ⟨some 50, .load 4 false (.t 49), none, [12]⟩,
  ⟨some 51, .ia 4 (.t 37) (.t 38), none, [0, 1, 0, 1, 5, 6, 7, 8, 9, 13]⟩,
  ⟨none, .store 4 (.t 51) (.t 46), none, [14, 9, 0, 1, 5, 6, 7, 8, 9, 13]⟩,
  ⟨some 52, .ia 4 (.t 39) (.t 41), none, [2, 4, 0, 1, 2, 3, 4, 5, 6, 7, 8, 9, 10, 11, 12, 13, 14, 15]⟩,
  ⟨none, .store 4 (.t 52) (.t 50), none, [16, 13, 15, 0, 1, 2, 3, 4, 5, 6, 7, 8, 9, 10, 11, 12, 13, 14, 15]⟩] [34, 37, 38, 39, 40, 41, 42, 43, 44, 45, 46, 47, 48, 49, 50, 51, 52]
def R_slices_insertionSortCmpFunc_5 : AC := .ops false [⟨some 35, .mov (.t 9), none, []⟩,
  ⟨some 36, .bin .sub (.t 35) (.c (.int .i64 1)), none, []⟩,
  ⟨some 9, .mov (.t 36), none, []⟩] [35, 36]
def L_slices_insertionSortCmpFunc_1 : AC := (.seq (.seq R_slices_insertionSortCmpFunc_4 (.cond (.t 34) .skip (.exit 2))) (.seq (.block 3 R_slices_insertionSortCmpFunc_6) R_slices_insertionSortCmpFunc_5))
def R_slices_insertionSortCmpFunc_2 : AC := .ops false [⟨some 15, .mov (.t 8), none, []⟩,
  ⟨some 16, .bin .add (.t 15) (.c (.int .i64 1)), none, []⟩,
  ⟨some 8, .mov (.t 16), none, []⟩] [9, 15, 16, 34]
def L_slices_insertionSortCmpFunc_2 : AC := (.seq (.seq R_slices_insertionSortCmpFunc_1 (.cond (.t 14) .skip (.exit 0))) (.seq (.block 1 (.seq R_slices_insertionSortCmpFunc_3 (.block 2 (.loop L_slices_insertionSortCmpFunc_1)))) R_slices_insertionSortCmpFunc_2))
def F_slices_insertionSortCmpFunc : AFunc := { ntmps := 53, nargs := 4, kills := [[10, 11], [12, 13], [9, 15, 16, 34], [14, 17], [18, 19, 20, 21, 22, 23, 24, 25, 26, 27, 28, 29, 30, 31, 32, 33], [35, 36], [34, 37, 38, 39, 40, 41, 42, 43, 44, 45, 46, 47, 48, 49, 50, 51, 52]], results := [], body := (.seq R_slices_insertionSortCmpFunc_0 (.block 0 (.loop L_slices_insertionSortCmpFunc_2))) }
noncomputable def T309 : { F : AFunc // CT.func [[10, 11], [12, 13], [9, 15, 16, 34], [14, 17], [18, 19, 20, 21, 22, 23, 24, 25, 26, 27, 28, 29, 30, 31, 32, 33], [35, 36], [34, 37, 38, 39, 40, 41, 42, 43, 44, 45, 46, 47, 48, 49, 50, 51, 52]] Tryz.f309 = some F } := ⟨F_slices_insertionSortCmpFunc, by kernel_rfl⟩
theorem c309 : Cert 309 T309.1 := cert_of T309.2 Tryz.func309
-- slices.symMergeCmpFunc[suffrage/api.Link]
def R_slices_symMergeCmpFunc_0 : AC := .ops false [⟨some 25, .mov (.t 2), none, []⟩,
  ⟨some 26, .mov (.t 1), none, []⟩,
  ⟨some 27, .bin .sub (.t 25) (.t 26), none, []⟩,
  ⟨some 28, .bin .eql (.t 27) (.c (.int .i64 1)), none, []⟩] [25, 26, 27]
def R_slices_symMergeCmpFunc_1 : AC := .ops false [⟨some 29, .mov (.t 2), none, []⟩,
  ⟨some 10, .mov (.t 29), none, []⟩] [2, 28, 29]
def R_slices_symMergeCmpFunc_2 : AC := .ops false [⟨some 30, .mov (.t 3), none, []⟩,
  ⟨some 11, .mov (.t 30), none, []⟩] [3, 30]
def R_slices_symMergeCmpFunc_3 : AC := .ops false [⟨some 31, .mov (.t 10), none, []⟩,
  ⟨some 32, .mov (.t 11), none, []⟩,
  ⟨some 33, .bin .lss (.t 31) (.t 32), none, []⟩] [31, 32]
def R_slices_symMergeCmpFunc_4 : AC := .ops false [⟨some 34, .mov (.t 10), none, []⟩,
  ⟨some 35, .mov (.t 11), none, []⟩,
  ⟨some 36, .bin .add (.t 34) (.t 35), none, []⟩,
  ⟨some 37, .conv .u64 (.t 36), none, []⟩,
  ⟨some 38, .bin .shr (.t 37) (.c (.int .u64 1)), none, []⟩,
  ⟨some 39, .conv .i64 (.t 38), none, []⟩,
  ⟨some 12, .mov (.t 39), none, []⟩] [33, 34, 35, 36, 37, 38, 39]
def R_slices_symMergeCmpFunc_5 : AC := .ops true [⟨some 40, .mov (.t 4), none, []⟩,
  ⟨some 41, .mov (.t 0), none, []⟩,
  ⟨some 42, .mov (.t 12), none, []⟩,
  ⟨some 43, .ia 4 (.t 41) (.t 42), none, [1, 2]⟩,
  ⟨some 44, .load 4 false (.t 43), none, [3]⟩,
  ⟨some 45, .mov (.t 0), none, []⟩,
  ⟨some 46, .mov (.t 1), none, []⟩,
  ⟨some 47, .ia 4 (.t 45) (.t 46), none, [5, 6]⟩,
  ⟨some 48, .load 4 false (.t 47), none, [7]⟩,
  ⟨some 49, .call (.dyn (.t 40)) [.t 44, .t 48], none, [0, 4, 8]⟩,
  ⟨some 50, .bin .lss (.t 49) (.c (.int .i64 0)), none, [9]⟩] [40, 41, 42, 43, 44, 45, 46, 47, 48, 49]
def R_slices_symMergeCmpFunc_6 : AC := .ops false [⟨some 51, .mov (.t 12), none, []⟩,
  ⟨some 52, .bin .add (.t 51) (.c (.int .i64 1)), none, []⟩,
  ⟨some 10, .mov (.t 52), none, []⟩] [12, 50, 51, 52]
def R_slices_symMergeCmpFunc_7 : AC := .ops false [⟨some 53, .mov (.t 12), none, []⟩,
  ⟨some 11, .mov (.t 53), none, []⟩] [12, 50, 53]
def L_slices_symMergeCmpFunc_1 : AC := (.seq (.seq R_slices_symMergeCmpFunc_3 (.cond (.t 33) .skip (.exit 0))) (.block 1 (.seq R_slices_symMergeCmpFunc_4 (.seq R_slices_symMergeCmpFunc_5 (.cond (.t 50) R_slices_symMergeCmpFunc_6 R_slices_symMergeCmpFunc_7)))))
def R_slices_symMergeCmpFunc_8 : AC := .ops false [⟨some 54, .mov (.t 1), none, []⟩,
  ⟨some 13, .mov (.t 54), none, []⟩] [1, 4, 11, 33, 54]
def R_slices_symMergeCmpFunc_9 : AC := .ops false [⟨some 55, .mov (.t 13), none, []⟩,
  ⟨some 56, .mov (.t 10), none, []⟩,
  ⟨some 57, .bin .sub (.t 56) (.c (.int .i64 1)), none, []⟩,
  ⟨some 58, .bin .lss (.t 55) (.t 57), none, []⟩] [55, 56, 57]
def R_slices_symMergeCmpFunc_11 : AC := .ops true [⟨some 61, .mov (.t 0), none, []⟩,
  ⟨some 62, .mov (.t 13), none, []⟩,
  ⟨some 63, .mov (.t 0), none, []⟩,
  ⟨some 64, .mov (.t 13), none, []⟩,
  ⟨some 65, .bin .add (.t 64) (.c (.int .i64 1)), none, [3]⟩,
  ⟨some 66, .mov (.t 0), none, []⟩,
  ⟨some 67, .mov (.t 13), none, []⟩,
  ⟨some 68, .bin .add (.t 67) (.c (.int .i64 1)), none, [6]⟩,
  ⟨some 69, .ia 4 (.t 66) (.t 68), none, [5, 7]⟩,
  ⟨some 70, .load 4 false (.t 69), none, [8]⟩,
  ⟨some 71, .mov (.t 0), none, []⟩,
  ⟨some 72, .mov (.t 13), none, []⟩,
  ⟨some 73, .ia 4 (.t 71) (.t 72), none, [10, 11]⟩,
  ⟨some 74, .load 4 false (.t 73), none, [12]⟩,
  ⟨some 75, .ia 4 (.t 61) (.t 62), none, [0, 1, 0, 1, 5, 6, 7, 8, 9, 13]⟩,
  ⟨none, .store 4 (.t 75) (.t 70), none, [14, 9, 0, 1, 5, 6, 7, 8, 9, 13]⟩,
  ⟨some 76, .ia 4 (.t 63) (.t 65), none, [2, 4, 0, 1, 2, 3, 4, 5, 6, 7, 8, 9, 10, 11, 12, 13, 14, 15]⟩,
  ⟨none, .store 4 (.t 76) (.t 74), none, [16, 13, 15, 0, 1, 2, 3, 4, 5, 6, 7, 8, 9, 10, 11, 12, 13, 14, 15]⟩] [58, 61, 62, 63, 64, 65, 66, 67, 68, 69, 70, 71, 72, 73, 74, 75, 76]
def R_slices_symMergeCmpFunc_10 : AC := .ops false [⟨some 59, .mov (.t 13), none, []⟩,
  ⟨some 60, .bin .add (.t 59) (.c (.int .i64 1)), none, []⟩,
  ⟨some 13, .mov (.t 60), none, []⟩] [59, 60]
def L_slices_symMergeCmpFunc_2 : AC := (.seq (.seq R_slices_symMergeCmpFunc_9 (.cond (.t 58) .skip (.exit 2))) (.seq (.block 3 R_slices_symMergeCmpFunc_11) R_slices_symMergeCmpFunc_10))
def R_slices_symMergeCmpFunc_12 : AC := .ops false [⟨some 77, .mov (.t 3), none, []⟩,
  ⟨some 78, .mov (.t 2), none, []⟩,
  ⟨some 79, .bin .sub (.t 77) (.t 78), none, []⟩,
  ⟨some 80, .bin .eql (.t 79) (.c (.int .i64 1)), none, []⟩] [28, 77, 78, 79]
def R_slices_symMergeCmpFunc_13 : AC := .ops false [⟨some 81, .mov (.t 1), none, []⟩,
  ⟨some 14, .mov (.t 81), none, []⟩] [1, 3, 80, 81]
def R_slices_symMergeCmpFunc_14 : AC := .ops false [⟨some 82, .mov (.t 2), none, []⟩,
  ⟨some 15, .mov (.t 82), none, []⟩] [82]
def R_slices_symMergeCmpFunc_15 : AC := .ops false [⟨some 83, .mov (.t 14), none, []⟩,
  ⟨some 84, .mov (.t 15), none, []⟩,
  ⟨some 85, .bin .lss (.t 83) (.t 84), none, []⟩] [83, 84]
def R_slices_symMergeCmpFunc_16 : AC := .ops false [⟨some 86, .mov (.t 14), none, []⟩,
  ⟨some 87, .mov (.t 15), none, []⟩,
  ⟨some 88, .bin .add (.t 86) (.t 87), none, []⟩,
  ⟨some 89, .conv .u64 (.t 88), none, []⟩,
  ⟨some 90, .bin .shr (.t 89) (.c (.int .u64 1)), none, []⟩,
  ⟨some 91, .conv .i64 (.t 90), none, []⟩,
  ⟨some 16, .mov (.t 91), none, []⟩] [85, 86, 87, 88, 89, 90, 91]
def R_slices_symMergeCmpFunc_17 : AC := .ops true [⟨some 92, .mov (.t 4), none, []⟩,
  ⟨some 93, .mov (.t 0), none, []⟩,
  ⟨some 94, .mov (.t 2), none, []⟩,
  ⟨some 95, .ia 4 (.t 93) (.t 94), none, [1, 2]⟩,
  ⟨some 96, .load 4 false (.t 95), none, [3]⟩,
  ⟨some 97, .mov (.t 0), none, []⟩,
  ⟨some 98, .mov (.t 16), none, []⟩,
  ⟨some 99, .ia 4 (.t 97) (.t 98), none, [5, 6]⟩,
  ⟨some 100, .load 4 false (.t 99), none, [7]⟩,
  ⟨some 101, .call (.dyn (.t 92)) [.t 96, .t 100], none, [0, 4, 8]⟩,
  ⟨some 102, .bin .lss (.t 101) (.c (.int .i64 0)), none, [9]⟩,
  ⟨some 103, .un .not (.t 102), none, [10]⟩] [92, 93, 94, 95, 96, 97, 98, 99, 100, 101, 102]
def R_slices_symMergeCmpFunc_18 : AC := .ops false [⟨some 104, .mov (.t 16), none, []⟩,
  ⟨some 105, .bin .add (.t 104) (.c (.int .i64 1)), none, []⟩,
  ⟨some 14, .mov (.t 105), none, []⟩] [16, 103, 104, 105]
def R_slices_symMergeCmpFunc_19 : AC := .ops false [⟨some 106, .mov (.t 16), none, []⟩,
  ⟨some 15, .mov (.t 106), none, []⟩] [16, 103, 106]
def L_slices_symMergeCmpFunc_3 : AC := (.seq (.seq R_slices_symMergeCmpFunc_15 (.cond (.t 85) .skip (.exit 4))) (.block 5 (.seq R_slices_symMergeCmpFunc_16 (.seq R_slices_symMergeCmpFunc_17 (.cond (.t 103) R_slices_symMergeCmpFunc_18 R_slices_symMergeCmpFunc_19)))))
def R_slices_symMergeCmpFunc_20 : AC := .ops false [⟨some 107, .mov (.t 2), none, []⟩,
  ⟨some 17, .mov (.t 107), none, []⟩] [2, 4, 15, 85, 107]
def R_slices_symMergeCmpFunc_21 : AC := .ops false [⟨some 108, .mov (.t 17), none, []⟩,
  ⟨some 109, .mov (.t 14), none, []⟩,
  ⟨some 110, .bin .gtr (.t 108) (.t 109), none, []⟩] [108, 109]
def R_slices_symMergeCmpFunc_23 : AC := .ops true [⟨some 113, .mov (.t 0), none, []⟩,
  ⟨some 114, .mov (.t 17), none, []⟩,
  ⟨some 115, .mov (.t 0), none, []⟩,
  ⟨some 116, .mov (.t 17), none, []⟩,
  ⟨some 117, .bin .sub (.t 116) (.c (.int .i64 1)), none, [3]⟩,
  ⟨some 118, .mov (.t 0), none, []⟩,
  ⟨some 119, .mov (.t 17), none, []⟩,
  ⟨some 120, .bin .sub (.t 119) (.c (.int .i64 1)), none, [6]⟩,
  ⟨some 121, .ia 4 (.t 118) (.t 120), none, [5, 7]⟩,
  ⟨some 122, .load 4 false (.t 121), none, [8]⟩,
  ⟨some 123, .mov (.t 0), none, []⟩,
  ⟨some 124, .mov (.t 17), none, []⟩,
  ⟨some 125, .ia 4 (.t 123) (.t 124), none, [10, 11]⟩,
  ⟨some 126, .load 4 false (.t 125), none, [12]⟩,
  ⟨some 127, .ia 4 (.t 113) (.t 114), none, [0, 1, 0, 1, 5, 6, 7, 8, 9, 13]⟩,
  ⟨none, .store 4 (.t 127) (.t 122), none, [14, 9, 0, 1, 5, 6, 7, 8, 9, 13]⟩,
  ⟨some 128, .ia 4 (.t 115) (.t 117), none, [2, 4, 0, 1, 2, 3, 4, 5, 6, 7, 8, 9, 10, 11, 12, 13, 14, 15]⟩,
  ⟨none, .store 4 (.t 128) (.t 126), none, [16, 13, 15, 0, 1, 2, 3, 4, 5, 6, 7, 8, 9, 10, 11, 12, 13, 14, 15]⟩] [110, 113, 114, 115, 116, 117, 118, 119, 120, 121, 122, 123, 124, 125, 126, 127, 128]
def R_slices_symMergeCmpFunc_22 : AC := .ops false [⟨some 111, .mov (.t 17), none, []⟩,
  ⟨some 112, .bin .sub (.t 111) (.c (.int .i64 1)), none, []⟩,
  ⟨some 17, .mov (.t 112), none, []⟩] [111, 112]
def L_slices_symMergeCmpFunc_4 : AC := (.seq (.seq R_slices_symMergeCmpFunc_21 (.cond (.t 110) .skip (.exit 6))) (.seq (.block 7 R_slices_symMergeCmpFunc_23) R_slices_symMergeCmpFunc_22))
def R_slices_symMergeCmpFunc_24 : AC := .ops false [⟨some 129, .mov (.t 1), none, []⟩,
  ⟨some 130, .mov (.t 3), none, []⟩,
  ⟨some 131, .bin .add (.t 129) (.t 130), none, []⟩,
  ⟨some 132, .conv .u64 (.t 131), none, []⟩,
  ⟨some 133, .bin .shr (.t 132) (.c (.int .u64 1)), none, []⟩,
  ⟨some 134, .conv .i64 (.t 133), none, []⟩,
  ⟨some 18, .mov (.t 134), none, []⟩] [80, 129, 130, 131, 132, 133, 134]
def R_slices_symMergeCmpFunc_25 : AC := .ops false [⟨some 135, .mov (.t 18), none, []⟩,
  ⟨some 136, .mov (.t 2), none, []⟩,
  ⟨some 137, .bin .add (.t 135) (.t 136), none, []⟩,
  ⟨some 19, .mov (.t 137), none, []⟩] [135, 136, 137]
def R_slices_symMergeCmpFunc_26 : AC := .ops false [⟨some 20, .mov (.c (.int .i64 0)), none, []⟩,
  ⟨some 21, .mov (.c (.int .i64 0)), none, []⟩] [20, 21]
def R_slices_symMergeCmpFunc_27 : AC := .ops false [⟨some 138, .mov (.t 2), none, []⟩,
  ⟨some 139, .mov (.t 18), none, []⟩,
  ⟨some 140, .bin .gtr (.t 138) (.t 139), none, []⟩] [138, 139]
def R_slices_symMergeCmpFunc_28 : AC := .ops false [⟨some 141, .mov (.t 19), none, []⟩,
  ⟨some 142, .mov (.t 3), none, []⟩,
  ⟨some 143, .bin .sub (.t 141) (.t 142), none, []⟩,
  ⟨some 20, .mov (.t 143), none, []⟩] [140, 141, 142, 143]
def R_slices_symMergeCmpFunc_29 : AC := .ops false [⟨some 144, .mov (.t 18), none, []⟩,
  ⟨some 21, .mov (.t 144), none, []⟩] [144]
def R_slices_symMergeCmpFunc_30 : AC := .ops false [⟨some 145, .mov (.t 1), none, []⟩,
  ⟨some 20, .mov (.t 145), none, []⟩] [140, 145]
def R_slices_symMergeCmpFunc_31 : AC := .ops false [⟨some 146, .mov (.t 2), none, []⟩,
  ⟨some 21, .mov (.t 146), none, []⟩] [146]
def R_slices_symMergeCmpFunc_32 : AC := .ops false [⟨some 147, .mov (.t 19), none, []⟩,
  ⟨some 148, .bin .sub (.t 147) (.c (.int .i64 1)), none, []⟩,
  ⟨some 22, .mov (.t 148), none, []⟩] [147, 148]
def R_slices_symMergeCmpFunc_33 : AC := .ops false [⟨some 149, .mov (.t 20), none, []⟩,
  ⟨some 150, .mov (.t 21), none, []⟩,
  ⟨some 151, .bin .lss (.t 149) (.t 150), none, []⟩] [149, 150]
def R_slices_symMergeCmpFunc_34 : AC := .ops false [⟨some 152, .mov (.t 20), none, []⟩,
  ⟨some 153, .mov (.t 21), none, []⟩,
  ⟨some 154, .bin .add (.t 152) (.t 153), none, []⟩,
  ⟨some 155, .conv .u64 (.t 154), none, []⟩,
  ⟨some 156, .bin .shr (.t 155) (.c (.int .u64 1)), none, []⟩,
  ⟨some 157, .conv .i64 (.t 156), none, []⟩,
  ⟨some 23, .mov (.t 157), none, []⟩] [151, 152, 153, 154, 155, 156, 157]
def R_slices_symMergeCmpFunc_35 : AC := .ops true [⟨some 158, .mov (.t 4), none, []⟩,
  ⟨some 159, .mov (.t 0), none, []⟩,
  ⟨some 160, .mov (.t 22), none, []⟩,
  ⟨some 161, .mov (.t 23), none, []⟩,
  ⟨some 162, .bin .sub (.t 160) (.t 161), none, [2, 3]⟩,
  ⟨some 163, .ia 4 (.t 159) (.t 162), none, [1, 4]⟩,
  ⟨some 164, .load 4 false (.t 163), none, [5]⟩,
  ⟨some 165, .mov (.t 0), none, []⟩,
  ⟨some 166, .mov (.t 23), none, []⟩,
  ⟨some 167, .ia 4 (.t 165) (.t 166), none, [7, 8]⟩,
  ⟨some 168, .load 4 false (.t 167), none, [9]⟩,
  ⟨some 169, .call (.dyn (.t 158)) [.t 164, .t 168], none, [0, 6, 10]⟩,
  ⟨some 170, .bin .lss (.t 169) (.c (.int .i64 0)), none, [11]⟩,
  ⟨some 171, .un .not (.t 170), none, [12]⟩] [158, 159, 160, 161, 162, 163, 164, 165, 166, 167, 168, 169, 170]
def R_slices_symMergeCmpFunc_36 : AC := .ops false [⟨some 172, .mov (.t 23), none, []⟩,
  ⟨some 173, .bin .add (.t 172) (.c (.int .i64 1)), none, []⟩,
  ⟨some 20, .mov (.t 173), none, []⟩] [23, 171, 172, 173]
def R_slices_symMergeCmpFunc_37 : AC := .ops false [⟨some 174, .mov (.t 23), none, []⟩,
  ⟨some 21, .mov (.t 174), none, []⟩] [23, 171, 174]
def L_slices_symMergeCmpFunc_5 : AC := (.seq (.seq R_slices_symMergeCmpFunc_33 (.cond (.t 151) .skip (.exit 8))) (.block 9 (.seq R_slices_symMergeCmpFunc_34 (.seq R_slices_symMergeCmpFunc_35 (.cond (.t 171) R_slices_symMergeCmpFunc_36 R_slices_symMergeCmpFunc_37)))))
def R_slices_symMergeCmpFunc_38 : AC := .ops false [⟨some 175, .mov (.t 19), none, []⟩,
  ⟨some 176, .mov (.t 20), none, []⟩,
  ⟨some 177, .bin .sub (.t 175) (.t 176), none, []⟩,
  ⟨some 24, .mov (.t 177), none, []⟩] [19, 21, 22, 151, 175, 176, 177]
def R_slices_symMergeCmpFunc_39 : AC := .ops false [⟨some 178, .mov (.t 20), none, []⟩,
  ⟨some 179, .mov (.t 2), none, []⟩,
  ⟨some 180, .bin .lss (.t 178) (.t 179), none, []⟩,
  ⟨some 181, .mov (.t 180), none, []⟩,
  ⟨some 182, .mov (.t 2), some (181, true), []⟩,
  ⟨some 183, .mov (.t 24), some (181, true), []⟩,
  ⟨some 184, .bin .lss (.t 182) (.t 183), some (181, true), []⟩,
  ⟨some 185, .pick (.t 181) (.t 184) (.c (.bool false)), none, []⟩] [178, 179, 180, 181, 182, 183, 184]
def R_slices_symMergeCmpFunc_40 : AC := .ops false [⟨some 186, .mov (.t 0), none, []⟩,
  ⟨some 187, .mov (.t 20), none, []⟩,
  ⟨some 188, .mov (.t 2), none, []⟩,
  ⟨some 189, .mov (.t 24), none, []⟩,
  ⟨some 190, .mov (.t 4), none, []⟩,
  ⟨some 191, .call (.fn 319) [.t 186, .t 187, .t 188, .t 189, .t 190], none, []⟩] [2, 185, 186, 187, 188, 189, 190, 191]
def R_slices_symMergeCmpFunc_41 : AC := .ops false [⟨some 192, .mov (.t 1), none, []⟩,
  ⟨some 193, .mov (.t 20), none, []⟩,
  ⟨some 194, .bin .lss (.t 192) (.t 193), none, []⟩,
  ⟨some 195, .mov (.t 194), none, []⟩,
  ⟨some 196, .mov (.t 20), some (195, true), []⟩,
  ⟨some 197, .mov (.t 18), some (195, true), []⟩,
  ⟨some 198, .bin .lss (.t 196) (.t 197), some (195, true), []⟩,
  ⟨some 199, .pick (.t 195) (.t 198) (.c (.bool false)), none, []⟩] [2, 185, 192, 193, 194, 195, 196, 197, 198]
def R_slices_symMergeCmpFunc_42 : AC := .ops false [⟨some 200, .mov (.t 0), none, []⟩,
  ⟨some 201, .mov (.t 1), none, []⟩,
  ⟨some 202, .mov (.t 20), none, []⟩,
  ⟨some 203, .mov (.t 18), none, []⟩,
  ⟨some 204, .mov (.t 4), none, []⟩,
  ⟨some 205, .call (.fn 310) [.t 200, .t 201, .t 202, .t 203, .t 204], none, []⟩] [1, 20, 199, 200, 201, 202, 203, 204, 205]
def R_slices_symMergeCmpFunc_43 : AC := .ops false [⟨some 206, .mov (.t 18), none, []⟩,
  ⟨some 207, .mov (.t 24), none, []⟩,
  ⟨some 208, .bin .lss (.t 206) (.t 207), none, []⟩,
  ⟨some 209, .mov (.t 208), none, []⟩,
  ⟨some 210, .mov (.t 24), some (209, true), []⟩,
  ⟨some 211, .mov (.t 3), some (209, true), []⟩,
  ⟨some 212, .bin .lss (.t 210) (.t 211), some (209, true), []⟩,
  ⟨some 213, .pick (.t 209) (.t 212) (.c (.bool false)), none, []⟩] [1, 20, 199, 206, 207, 208, 209, 210, 211, 212]
def R_slices_symMergeCmpFunc_44 : AC := .ops false [⟨some 214, .mov (.t 0), none, []⟩,
  ⟨some 215, .mov (.t 18), none, []⟩,
  ⟨some 216, .mov (.t 24), none, []⟩,
  ⟨some 217, .mov (.t 3), none, []⟩,
  ⟨some 218, .mov (.t 4), none, []⟩,
  ⟨some 219, .call (.fn 310) [.t 214, .t 215, .t 216, .t 217, .t 218], none, []⟩] [0, 3, 4, 18, 24, 213, 214, 215, 216, 217, 218, 219]
def F_slices_symMergeCmpFunc : AFunc := { ntmps := 220, nargs := 5, kills := [[25, 26, 27], [2, 28, 29], [3, 30], [31, 32], [33, 34, 35, 36, 37, 38, 39], [40, 41, 42, 43, 44, 45, 46, 47, 48, 49], [12, 50, 51, 52], [12, 50, 53], [1, 4, 11, 33, 54], [55, 56, 57], [59, 60], [58, 61, 62, 63, 64, 65, 66, 67, 68, 69, 70, 71, 72, 73, 74, 75, 76], [28, 77, 78, 79], [1, 3, 80, 81], [82], [83, 84], [85, 86, 87, 88, 89, 90, 91], [92, 93, 94, 95, 96, 97, 98, 99, 100, 101, 102], [16, 103, 104, 105], [16, 103, 106], [2, 4, 15, 85, 107], [108, 109], [111, 112], [110, 113, 114, 115, 116, 117, 118, 119, 120, 121, 122, 123, 124, 125, 126, 127, 128], [80, 129, 130, 131, 132, 133, 134], [135, 136, 137], [20, 21], [138, 139], [140, 141, 142, 143], [144], [140, 145], [146], [147, 148], [149, 150], [151, 152, 153, 154, 155, 156, 157], [158, 159, 160, 161, 162, 163, 164, 165, 166, 167, 168, 169, 170], [23, 171, 172, 173], [23, 171, 174], [19, 21, 22, 151, 175, 176, 177], [178, 179, 180, 181, 182, 183, 184], [2, 185, 186, 187, 188, 189, 190, 191], [2, 185, 192, 193, 194, 195, 196, 197, 198], [1, 20, 199, 200, 201, 202, 203, 204, 205], [1, 20, 199, 206, 207, 208, 209, 210, 211, 212], [0, 3, 4, 18, 24, 213, 214, 215, 216, 217, 218, 219]], results := [], body := (.seq (.seq R_slices_symMergeCmpFunc_0 (.cond (.t 28) (.seq R_slices_symMergeCmpFunc_1 (.seq R_slices_symMergeCmpFunc_2 (.seq (.block 0 (.loop L_slices_symMergeCmpFunc_1)) (.seq (.seq R_slices_symMergeCmpFunc_8 (.block 2 (.loop L_slices_symMergeCmpFunc_2))) .ret)))) .skip)) (.seq (.seq R_slices_symMergeCmpFunc_12 (.cond (.t 80) (.seq R_slices_symMergeCmpFunc_13 (.seq R_slices_symMergeCmpFunc_14 (.seq (.block 4 (.loop L_slices_symMergeCmpFunc_3)) (.seq (.seq R_slices_symMergeCmpFunc_20 (.block 6 (.loop L_slices_symMergeCmpFunc_4))) .ret)))) .skip)) (.seq R_slices_symMergeCmpFunc_24 (.seq R_slices_symMergeCmpFunc_25 (.seq R_slices_symMergeCmpFunc_26 (.seq (.seq R_slices_symMergeCmpFunc_27 (.cond (.t 140) (.seq R_slices_symMergeCmpFunc_28 R_slices_symMergeCmpFunc_29) (.seq R_slices_symMergeCmpFunc_30 R_slices_symMergeCmpFunc_31))) (.seq R_slices_symMergeCmpFunc_32 (.seq (.block 8 (.loop L_slices_symMergeCmpFunc_5)) (.seq R_slices_symMergeCmpFunc_38 (.seq (.seq R_slices_symMergeCmpFunc_39 (.cond (.t 185) R_slices_symMergeCmpFunc_40 .skip)) (.seq (.seq R_slices_symMergeCmpFunc_41 (.cond (.t 199) R_slices_symMergeCmpFunc_42 .skip)) (.seq R_slices_symMergeCmpFunc_43 (.cond (.t 213) R_slices_symMergeCmpFunc_44 .skip))))))))))))) }
noncomputable def T310 : { F : AFunc // CT.func [[25, 26, 27], [2, 28, 29], [3, 30], [31, 32], [33, 34, 35, 36, 37, 38, 39], [40, 41, 42, 43, 44, 45, 46, 47, 48, 49], [12, 50, 51, 52], [12, 50, 53], [1, 4, 11, 33, 54], [55, 56, 57], [59, 60], [58, 61, 62, 63, 64, 65, 66, 67, 68, 69, 70, 71, 72, 73, 74, 75, 76], [28, 77, 78, 79], [1, 3, 80, 81], [82], [83, 84], [85, 86, 87, 88, 89, 90, 91], [92, 93, 94, 95, 96, 97, 98, 99, 100, 101, 102], [16, 103, 104, 105], [16, 103, 106], [2, 4, 15, 85, 107], [108, 109], [111, 112], [110, 113, 114, 115, 116, 117, 118, 119, 120, 121, 122, 123, 124, 125, 126, 127, 128], [80, 129, 130, 131, 132, 133, 134], [135, 136, 137], [20, 21], [138, 139], [140, 141, 142, 143], [144], [140, 145], [146], [147, 148], [149, 150], [151, 152, 153, 154, 155, 156, 157], [158, 159, 160, 161, 162, 163, 164, 165, 166, 167, 168, 169, 170], [23, 171, 172, 173], [23, 171, 174], [19, 21, 22, 151, 175, 176, 177], [178, 179, 180, 181, 182, 183, 184], [2, 185, 186, 187, 188, 189, 190, 191], [2, 185, 192, 193, 194, 195, 196, 197, 198], [1, 20, 199, 200, 201, 202, 203, 204, 205], [1, 20, 199, 206, 207, 208, 209, 210, 211, 212], [0, 3, 4, 18, 24, 213, 214, 215, 216, 217, 218, 219]] Tryz.f310 = some F } := ⟨F_slices_symMergeCmpFunc, by kernel_rfl⟩
theorem c310 : Cert 310 T310.1 := cert_of T310.2 Tryz.func310
-- math/bits.Div64
def R_bits_Div64_0 : AC := .ops false [⟨some 6, .mov (.c (.int .u64 0)), none, []⟩,
  ⟨some 7, .mov (.c (.int .u64 0)), none, []⟩] [6, 7]
def R_bits_Div64_1 : AC := .ops false [⟨some 19, .mov (.t 2), none, []⟩,
  ⟨some 20, .bin .eql (.t 19) (.c (.int .u64 0)), none, []⟩] [19]
def R_bits_Div64_2 : AC := .ops false [⟨some 21, .load 1 true (.g 1), none, []⟩,
  ⟨none, .no, none, []⟩] [20, 21]
def R_bits_Div64_3 : AC := .ops false [⟨some 22, .mov (.t 2), none, []⟩,
  ⟨some 23, .mov (.t 0), none, []⟩,
  ⟨some 24, .bin .leq (.t 22) (.t 23), none, []⟩] [20, 22, 23]
def R_bits_Div64_4 : AC := .ops false [⟨some 25, .load 1 true (.g 0), none, []⟩,
  ⟨none, .no, none, []⟩] [24, 25]
def R_bits_Div64_5 : AC := .ops false [⟨some 26, .mov (.t 0), none, []⟩,
  ⟨some 27, .bin .eql (.t 26) (.c (.int .u64 0)), none, []⟩] [24, 26]
def R_bits_Div64_6 : AC := .ops true [⟨some 28, .mov (.t 1), none, []⟩,
  ⟨some 29, .mov (.t 2), none, []⟩,
  ⟨some 30, .bin .quo (.t 28) (.t 29), none, [0, 1]⟩,
  ⟨some 31, .mov (.t 1), none, []⟩,
  ⟨some 32, .mov (.t 2), none, []⟩,
  ⟨some 33, .bin .rem (.t 31) (.t 32), none, [3, 4]⟩,
  ⟨some 6, .mov (.t 30), none, [2, 0, 1, 2]⟩,
  ⟨some 7, .mov (.t 33), none, [5, 6, 0, 1, 2, 3, 4, 5, 6]⟩] [0, 1, 2, 27, 28, 29, 30, 31, 32, 33]
def R_bits_Div64_7 : AC := .ops false [⟨some 34, .mov (.t 2), none, []⟩,
  ⟨some 35, .call (.fn 320) [.t 34], none, []⟩,
  ⟨some 36, .conv .u64 (.t 35), none, []⟩,
  ⟨some 8, .mov (.t 36), none, []⟩] [27, 34, 35, 36]
def R_bits_Div64_8 : AC := .ops false [⟨some 37, .mov (.t 2), none, []⟩,
  ⟨some 38, .mov (.t 8), none, []⟩,
  ⟨some 39, .bin .shl (.t 37) (.t 38), none, []⟩,
  ⟨some 2, .mov (.t 39), none, []⟩] [37, 38, 39]
def R_bits_Div64_9 : AC := .ops false [⟨some 40, .mov (.t 2), none, []⟩,
  ⟨some 41, .bin .shr (.t 40) (.c (.int .u64 32)), none, []⟩,
  ⟨some 9, .mov (.t 41), none, []⟩] [40, 41]
def R_bits_Div64_10 : AC := .ops false [⟨some 42, .mov (.t 2), none, []⟩,
  ⟨some 43, .bin .and (.t 42) (.c (.int .u64 4294967295)), none, []⟩,
  ⟨some 10, .mov (.t 43), none, []⟩] [42, 43]
def R_bits_Div64_11 : AC := .ops false [⟨some 44, .mov (.t 0), none, []⟩,
  ⟨some 45, .mov (.t 8), none, []⟩,
  ⟨some 46, .bin .shl (.t 44) (.t 45), none, []⟩,
  ⟨some 47, .mov (.t 1), none, []⟩,
  ⟨some 48, .mov (.t 8), none, []⟩,
  ⟨some 49, .bin .sub (.c (.int .u64 64)) (.t 48), none, []⟩,
  ⟨some 50, .bin .shr (.t 47) (.t 49), none, []⟩,
  ⟨some 51, .bin .or (.t 46) (.t 50), none, []⟩,
  ⟨some 11, .mov (.t 51), none, []⟩] [0, 44, 45, 46, 47, 48, 49, 50, 51]
def R_bits_Div64_12 : AC := .ops false [⟨some 52, .mov (.t 1), none, []⟩,
  ⟨some 53, .mov (.t 8), none, []⟩,
  ⟨some 54, .bin .shl (.t 52) (.t 53), none, []⟩,
  ⟨some 12, .mov (.t 54), none, []⟩] [1, 52, 53, 54]
def R_bits_Div64_13 : AC := .ops false [⟨some 55, .mov (.t 12), none, []⟩,
  ⟨some 56, .bin .shr (.t 55) (.c (.int .u64 32)), none, []⟩,
  ⟨some 13, .mov (.t 56), none, []⟩] [55, 56]
def R_bits_Div64_14 : AC := .ops false [⟨some 57, .mov (.t 12), none, []⟩,
  ⟨some 58, .bin .and (.t 57) (.c (.int .u64 4294967295)), none, []⟩,
  ⟨some 14, .mov (.t 58), none, []⟩] [12, 57, 58]
def R_bits_Div64_15 : AC := .ops false [⟨some 59, .mov (.t 11), none, []⟩,
  ⟨some 60, .mov (.t 9), none, []⟩,
  ⟨some 61, .bin .quo (.t 59) (.t 60), none, []⟩,
  ⟨some 15, .mov (.t 61), none, []⟩] [59, 60, 61]
def R_bits_Div64_16 : AC := .ops false [⟨some 62, .mov (.t 11), none, []⟩,
  ⟨some 63, .mov (.t 15), none, []⟩,
  ⟨some 64, .mov (.t 9), none, []⟩,
  ⟨some 65, .bin .mul (.t 63) (.t 64), none, []⟩,
  ⟨some 66, .bin .sub (.t 62) (.t 65), none, []⟩,
  ⟨some 16, .mov (.t 66), none, []⟩] [62, 63, 64, 65, 66]
def R_bits_Div64_17 : AC := .ops false [⟨some 67, .mov (.t 15), none, []⟩,
  ⟨some 68, .bin .geq (.t 67) (.c (.int .u64 4294967296)), none, []⟩,
  ⟨some 69, .mov (.t 68), none, []⟩,
  ⟨some 70, .mov (.t 15), some (69, false), []⟩,
  ⟨some 71, .mov (.t 10), some (69, false), []⟩,
  ⟨some 72, .bin .mul (.t 70) (.t 71), some (69, false), []⟩,
  ⟨some 73, .mov (.t 16), some (69, false), []⟩,
  ⟨some 74, .bin .mul (.c (.int .u64 4294967296)) (.t 73), some (69, false), []⟩,
  ⟨some 75, .mov (.t 13), some (69, false), []⟩,
  ⟨some 76, .bin .add (.t 74) (.t 75), some (69, false), []⟩,
  ⟨some 77, .bin .gtr (.t 72) (.t 76), some (69, false), []⟩,
  ⟨some 78, .pick (.t 69) (.c (.bool true)) (.t 77), none, []⟩] [67, 68, 69, 70, 71, 72, 73, 74, 75, 76, 77, 85]
def R_bits_Div64_18 : AC := .ops false [⟨some 79, .mov (.t 15), none, []⟩,
  ⟨some 80, .bin .sub (.t 79) (.c (.int .u64 1)), none, []⟩,
  ⟨some 15, .mov (.t 80), none, []⟩] [78, 79, 80]
def R_bits_Div64_19 : AC := .ops false [⟨some 81, .mov (.t 16), none, []⟩,
  ⟨some 82, .mov (.t 9), none, []⟩,
  ⟨some 83, .bin .add (.t 81) (.t 82), none, []⟩,
  ⟨some 16, .mov (.t 83), none, []⟩] [81, 82, 83]
def R_bits_Div64_20 : AC := .ops false [⟨some 84, .mov (.t 16), none, []⟩,
  ⟨some 85, .bin .geq (.t 84) (.c (.int .u64 4294967296)), none, []⟩] [84]
def L_bits_Div64_1 : AC := (.seq (.seq R_bits_Div64_17 (.cond (.t 78) .skip (.exit 0))) (.block 1 (.seq R_bits_Div64_18 (.seq R_bits_Div64_19 (.seq R_bits_Div64_20 (.cond (.t 85) (.exit 0) .skip))))))
def R_bits_Div64_21 : AC := .ops false [⟨some 86, .mov (.t 11), none, []⟩,
  ⟨some 87, .bin .mul (.t 86) (.c (.int .u64 4294967296)), none, []⟩,
  ⟨some 88, .mov (.t 13), none, []⟩,
  ⟨some 89, .bin .add (.t 87) (.t 88), none, []⟩,
  ⟨some 90, .mov (.t 15), none, []⟩,
  ⟨some 91, .mov (.t 2), none, []⟩,
  ⟨some 92, .bin .mul (.t 90) (.t 91), none, []⟩,
  ⟨some 93, .bin .sub (.t 89) (.t 92), none, []⟩,
  ⟨some 17, .mov (.t 93), none, []⟩] [11, 13, 16, 78, 85, 86, 87, 88, 89, 90, 91, 92, 93]
def R_bits_Div64_22 : AC := .ops false [⟨some 94, .mov (.t 17), none, []⟩,
  ⟨some 95, .mov (.t 9), none, []⟩,
  ⟨some 96, .bin .quo (.t 94) (.t 95), none, []⟩,
  ⟨some 18, .mov (.t 96), none, []⟩] [94, 95, 96]
def R_bits_Div64_23 : AC := .ops false [⟨some 97, .mov (.t 17), none, []⟩,
  ⟨some 98, .mov (.t 18), none, []⟩,
  ⟨some 99, .mov (.t 9), none, []⟩,
  ⟨some 100, .bin .mul (.t 98) (.t 99), none, []⟩,
  ⟨some 101, .bin .sub (.t 97) (.t 100), none, []⟩,
  ⟨some 16, .mov (.t 101), none, []⟩] [97, 98, 99, 100, 101]
def R_bits_Div64_24 : AC := .ops false [⟨some 102, .mov (.t 18), none, []⟩,
  ⟨some 103, .bin .geq (.t 102) (.c (.int .u64 4294967296)), none, []⟩,
  ⟨some 104, .mov (.t 103), none, []⟩,
  ⟨some 105, .mov (.t 18), some (104, false), []⟩,
  ⟨some 106, .mov (.t 10), some (104, false), []⟩,
  ⟨some 107, .bin .mul (.t 105) (.t 106), some (104, false), []⟩,
  ⟨some 108, .mov (.t 16), some (104, false), []⟩,
  ⟨some 109, .bin .mul (.c (.int .u64 4294967296)) (.t 108), some (104, false), []⟩,
  ⟨some 110, .mov (.t 14), some (104, false), []⟩,
  ⟨some 111, .bin .add (.t 109) (.t 110), some (104, false), []⟩,
  ⟨some 112, .bin .gtr (.t 107) (.t 111), some (104, false), []⟩,
  ⟨some 113, .pick (.t 104) (.c (.bool true)) (.t 112), none, []⟩] [102, 103, 104, 105, 106, 107, 108, 109, 110, 111, 112, 120]
def R_bits_Div64_25 : AC := .ops false [⟨some 114, .mov (.t 18), none, []⟩,
  ⟨some 115, .bin .sub (.t 114) (.c (.int .u64 1)), none, []⟩,
  ⟨some 18, .mov (.t 115), none, []⟩] [113, 114, 115]
def R_bits_Div64_26 : AC := .ops false [⟨some 116, .mov (.t 16), none, []⟩,
  ⟨some 117, .mov (.t 9), none, []⟩,
  ⟨some 118, .bin .add (.t 116) (.t 117), none, []⟩,
  ⟨some 16, .mov (.t 118), none, []⟩] [116, 117, 118]
def R_bits_Div64_27 : AC := .ops false [⟨some 119, .mov (.t 16), none, []⟩,
  ⟨some 120, .bin .geq (.t 119) (.c (.int .u64 4294967296)), none, []⟩] [119]
def L_bits_Div64_2 : AC := (.seq (.seq R_bits_Div64_24 (.cond (.t 113) .skip (.exit 2))) (.block 3 (.seq R_bits_Div64_25 (.seq R_bits_Div64_26 (.seq R_bits_Div64_27 (.cond (.t 120) (.exit 2) .skip))))))
def R_bits_Div64_28 : AC := .ops false [⟨some 121, .mov (.t 15), none, []⟩,
  ⟨some 122, .bin .mul (.t 121) (.c (.int .u64 4294967296)), none, []⟩,
  ⟨some 123, .mov (.t 18), none, []⟩,
  ⟨some 124, .bin .add (.t 122) (.t 123), none, []⟩,
  ⟨some 125, .mov (.t 17), none, []⟩,
  ⟨some 126, .bin .mul (.t 125) (.c (.int .u64 4294967296)), none, []⟩,
  ⟨some 127, .mov (.t 14), none, []⟩,
  ⟨some 128, .bin .add (.t 126) (.t 127), none, []⟩,
  ⟨some 129, .mov (.t 18), none, []⟩,
  ⟨some 130, .mov (.t 2), none, []⟩,
  ⟨some 131, .bin .mul (.t 129) (.t 130), none, []⟩,
  ⟨some 132, .bin .sub (.t 128) (.t 131), none, []⟩,
  ⟨some 133, .mov (.t 8), none, []⟩,
  ⟨some 134, .bin .shr (.t 132) (.t 133), none, []⟩,
  ⟨some 6, .mov (.t 124), none, []⟩,
  ⟨some 7, .mov (.t 134), none, []⟩] [2, 8, 9, 10, 14, 15, 16, 17, 18, 113, 120, 121, 122, 123, 124, 125, 126, 127, 128, 129, 130, 131, 132, 133, 134]
def F_bits_Div64 : AFunc := { ntmps := 135, nargs := 3, kills := [[6, 7], [19], [20, 21], [20, 22, 23], [24, 25], [24, 26], [0, 1, 2, 27, 28, 29, 30, 31, 32, 33], [27, 34, 35, 36], [37, 38, 39], [40, 41], [42, 43], [0, 44, 45, 46, 47, 48, 49, 50, 51], [1, 52, 53, 54], [55, 56], [12, 57, 58], [59, 60, 61], [62, 63, 64, 65, 66], [67, 68, 69, 70, 71, 72, 73, 74, 75, 76, 77, 85], [78, 79, 80], [81, 82, 83], [84], [11, 13, 16, 78, 85, 86, 87, 88, 89, 90, 91, 92, 93], [94, 95, 96], [97, 98, 99, 100, 101], [102, 103, 104, 105, 106, 107, 108, 109, 110, 111, 112, 120], [113, 114, 115], [116, 117, 118], [119], [2, 8, 9, 10, 14, 15, 16, 17, 18, 113, 120, 121, 122, 123, 124, 125, 126, 127, 128, 129, 130, 131, 132, 133, 134]], results := [.t 6, .t 7], body := (.seq R_bits_Div64_0 (.seq (.seq R_bits_Div64_1 (.cond (.t 20) R_bits_Div64_2 .skip)) (.seq (.seq R_bits_Div64_3 (.cond (.t 24) R_bits_Div64_4 .skip)) (.seq (.seq R_bits_Div64_5 (.cond (.t 27) (.seq R_bits_Div64_6 .ret) .skip)) (.seq R_bits_Div64_7 (.seq R_bits_Div64_8 (.seq R_bits_Div64_9 (.seq R_bits_Div64_10 (.seq R_bits_Div64_11 (.seq R_bits_Div64_12 (.seq R_bits_Div64_13 (.seq R_bits_Div64_14 (.seq R_bits_Div64_15 (.seq R_bits_Div64_16 (.seq (.block 0 (.loop L_bits_Div64_1)) (.seq R_bits_Div64_21 (.seq R_bits_Div64_22 (.seq R_bits_Div64_23 (.seq (.block 2 (.loop L_bits_Div64_2)) (.seq R_bits_Div64_28 .ret)))))))))))))))))))) }
noncomputable def T311 : { F : AFunc // CT.func [[6, 7], [19], [20, 21], [20, 22, 23], [24, 25], [24, 26], [0, 1, 2, 27, 28, 29, 30, 31, 32, 33], [27, 34, 35, 36], [37, 38, 39], [40, 41], [42, 43], [0, 44, 45, 46, 47, 48, 49, 50, 51], [1, 52, 53, 54], [55, 56], [12, 57, 58], [59, 60, 61], [62, 63, 64, 65, 66], [67, 68, 69, 70, 71, 72, 73, 74, 75, 76, 77, 85], [78, 79, 80], [81, 82, 83], [84], [11, 13, 16, 78, 85, 86, 87, 88, 89, 90, 91, 92, 93], [94, 95, 96], [97, 98, 99, 100, 101], [102, 103, 104, 105, 106, 107, 108, 109, 110, 111, 112, 120], [113, 114, 115], [116, 117, 118], [119], [2, 8, 9, 10, 14, 15, 16, 17, 18, 113, 120, 121, 122, 123, 124, 125, 126, 127, 128, 129, 130, 131, 132, 133, 134]] Tryz.f311 = some F } := ⟨F_bits_Div64, by kernel_rfl⟩
theorem c311 : Cert 311 T311.1 := cert_of T311.2 Tryz.func311
-- suffrage/nat.limb
noncomputable def T312 : { F : AFunc // CT.func [[4], [5, 6, 7], [0, 1, 8], [0, 1, 8, 9, 10, 11, 12]] Tryz.f312 = some F } := by
  refine ⟨?F, ?h⟩
  case h =>
    conv => lhs; cbv
theorem c312 : Cert 312 T312.1 := cert_of T312.2 Tryz.func312
-- suffrage/nat.less
noncomputable def T313 : { F : AFunc // CT.func [[4], [8, 9, 10], [], [11], [], [14, 15], [7, 16, 17, 18, 19, 20, 21, 22, 23, 24, 25, 26, 27, 28, 29, 30], [31], [0, 1, 5, 6, 12, 13, 14, 32, 33]] Tryz.f313 = some F } := by
  refine ⟨?F, ?h⟩
  case h =>
    conv => lhs; cbv
theorem c313 : Cert 313 T313.1 := cert_of T313.2 Tryz.func313
-- slices.siftDownOrdered[int]
def R_slices_siftDownOrdered_0 : AC := .ops false [⟨some 10, .mov (.t 1), none, []⟩,
  ⟨some 8, .mov (.t 10), none, []⟩] [1, 10]
def R_slices_siftDownOrdered_1 : AC := .ops false [⟨some 11, .mov (.t 8), none, []⟩,
  ⟨some 12, .bin .mul (.c (.int .i64 2)) (.t 11), none, []⟩,
  ⟨some 13, .bin .add (.t 12) (.c (.int .i64 1)), none, []⟩,
  ⟨some 9, .mov (.t 13), none, []⟩] [11, 12, 13]
def R_slices_siftDownOrdered_2 : AC := .ops false [⟨some 14, .mov (.t 9), none, []⟩,
  ⟨some 15, .mov (.t 2), none, []⟩,
  ⟨some 16, .bin .geq (.t 14) (.t 15), none, []⟩] [14, 15]
def R_slices_siftDownOrdered_3 : AC := .ops true [⟨some 17, .mov (.t 9), none, []⟩,
  ⟨some 18, .bin .add (.t 17) (.c (.int .i64 1)), none, [0]⟩,
  ⟨some 19, .mov (.t 2), none, []⟩,
  ⟨some 20, .bin .lss (.t 18) (.t 19), none, [1, 2]⟩,
  ⟨some 21, .mov (.t 20), none, [3]⟩,
  ⟨some 22, .mov (.t 0), some (21, true), [4]⟩,
  ⟨some 23, .mov (.t 3), some (21, true), [4]⟩,
  ⟨some 24, .mov (.t 9), some (21, true), [4]⟩,
  ⟨some 25, .bin .add (.t 23) (.t 24), some (21, true), [6, 7, 4]⟩,
  ⟨some 26, .ia 1 (.t 22) (.t 25), some (21, true), [5, 8, 4]⟩,
  ⟨some 27, .load 1 true (.t 26), some (21, true), [9, 4]⟩,
  ⟨some 28, .mov (.t 0), some (21, true), [4]⟩,
  ⟨some 29, .mov (.t 3), some (21, true), [4]⟩,
  ⟨some 30, .mov (.t 9), some (21, true), [4]⟩,
  ⟨some 31, .bin .add (.t 29) (.t 30), some (21, true), [12, 13, 4]⟩,
  ⟨some 32, .bin .add (.t 31) (.c (.int .i64 1)), some (21, true), [14, 4]⟩,
  ⟨some 33, .ia 1 (.t 28) (.t 32), some (21, true), [11, 15, 4]⟩,
  ⟨some 34, .load 1 true (.t 33), some (21, true), [16, 4]⟩,
  ⟨some 35, .call (.fn 254) [.t 27, .t 34], some (21, true), [10, 17, 4, 4]⟩,
  ⟨some 36, .pick (.t 21) (.t 35) (.c (.bool false)), none, [4, 18]⟩] [16, 17, 18, 19, 20, 21, 22, 23, 24, 25, 26, 27, 28, 29, 30, 31, 32, 33, 34, 35]
def R_slices_siftDownOrdered_4 : AC := .ops false [⟨some 37, .mov (.t 9), none, []⟩,
  ⟨some 38, .bin .add (.t 37) (.c (.int .i64 1)), none, []⟩,
  ⟨some 9, .mov (.t 38), none, []⟩] [36, 37, 38]
def R_slices_siftDownOrdered_5 : AC := .ops true [⟨some 39, .mov (.t 0), none, []⟩,
  ⟨some 40, .mov (.t 3), none, []⟩,
  ⟨some 41, .mov (.t 8), none, []⟩,
  ⟨some 42, .bin .add (.t 40) (.t 41), none, [1, 2]⟩,
  ⟨some 43, .ia 1 (.t 39) (.t 42), none, [0, 3]⟩,
  ⟨some 44, .load 1 true (.t 43), none, [4]⟩,
  ⟨some 45, .mov (.t 0), none, []⟩,
  ⟨some 46, .mov (.t 3), none, []⟩,
  ⟨some 47, .mov (.t 9), none, []⟩,
  ⟨some 48, .bin .add (.t 46) (.t 47), none, [7, 8]⟩,
  ⟨some 49, .ia 1 (.t 45) (.t 48), none, [6, 9]⟩,
  ⟨some 50, .load 1 true (.t 49), none, [10]⟩,
  ⟨some 51, .call (.fn 254) [.t 44, .t 50], none, [5, 11]⟩,
  ⟨some 52, .un .not (.t 51), none, [12]⟩] [36, 39, 40, 41, 42, 43, 44, 45, 46, 47, 48, 49, 50, 51]
def R_slices_siftDownOrdered_6 : AC := .ops true [⟨some 53, .mov (.t 0), none, []⟩,
  ⟨some 54, .mov (.t 3), none, []⟩,
  ⟨some 55, .mov (.t 8), none, []⟩,
  ⟨some 56, .bin .add (.t 54) (.t 55), none, [1, 2]⟩,
  ⟨some 57, .mov (.t 0), none, []⟩,
  ⟨some 58, .mov (.t 3), none, []⟩,
  ⟨some 59, .mov (.t 9), none, []⟩,
  ⟨some 60, .bin .add (.t 58) (.t 59), none, [5, 6]⟩,
  ⟨some 61, .mov (.t 0), none, []⟩,
  ⟨some 62, .mov (.t 3), none, []⟩,
  ⟨some 63, .mov (.t 9), none, []⟩,
  ⟨some 64, .bin .add (.t 62) (.t 63), none, [9, 10]⟩,
  ⟨some 65, .ia 1 (.t 61) (.t 64), none, [8, 11]⟩,
  ⟨some 66, .load 1 true (.t 65), none, [12]⟩,
  ⟨some 67, .mov (.t 0), none, []⟩,
  ⟨some 68, .mov (.t 3), none, []⟩,
  ⟨some 69, .mov (.t 8), none, []⟩,
  ⟨some 70, .bin .add (.t 68) (.t 69), none, [15, 16]⟩,
  ⟨some 71, .ia 1 (.t 67) (.t 70), none, [14, 17]⟩,
  ⟨some 72, .load 1 true (.t 71), none, [18]⟩,
  ⟨some 73, .ia 1 (.t 53) (.t 56), none, [0, 3, 0, 1, 2, 3, 8, 9, 10, 11, 12, 13, 19]⟩,
  ⟨none, .store 1 (.t 73) (.t 66), none, [20, 13, 0, 1, 2, 3, 8, 9, 10, 11, 12, 13, 19]⟩,
  ⟨some 74, .ia 1 (.t 57) (.t 60), none, [4, 7, 0, 1, 2, 3, 4, 5, 6, 7, 8, 9, 10, 11, 12, 13, 14, 15, 16, 17, 18, 19, 20, 21]⟩,
  ⟨none, .store 1 (.t 74) (.t 72), none, [22, 19, 21, 0, 1, 2, 3, 4, 5, 6, 7, 8, 9, 10, 11, 12, 13, 14, 15, 16, 17, 18, 19, 20, 21]⟩] [8, 52, 53, 54, 55, 56, 57, 58, 59, 60, 61, 62, 63, 64, 65, 66, 67, 68, 69, 70, 71, 72, 73, 74]
def R_slices_siftDownOrdered_7 : AC := .ops false [⟨some 75, .mov (.t 9), none, []⟩,
  ⟨some 8, .mov (.t 75), none, []⟩] [9, 75]
def L_slices_siftDownOrdered_1 : AC := (.block 1 (.seq R_slices_siftDownOrdered_1 (.seq (.seq R_slices_siftDownOrdered_2 (.cond (.t 16) (.exit 0) .skip)) (.seq (.seq R_slices_siftDownOrdered_3 (.cond (.t 36) R_slices_siftDownOrdered_4 .skip)) (.seq (.seq R_slices_siftDownOrdered_5 (.cond (.t 52) .ret .skip)) (.seq R_slices_siftDownOrdered_6 R_slices_siftDownOrdered_7))))))
def F_slices_siftDownOrdered : AFunc := { ntmps := 76, nargs := 4, kills := [[1, 10], [11, 12, 13], [14, 15], [16, 17, 18, 19, 20, 21, 22, 23, 24, 25, 26, 27, 28, 29, 30, 31, 32, 33, 34, 35], [36, 37, 38], [36, 39, 40, 41, 42, 43, 44, 45, 46, 47, 48, 49, 50, 51], [8, 52, 53, 54, 55, 56, 57, 58, 59, 60, 61, 62, 63, 64, 65, 66, 67, 68, 69, 70, 71, 72, 73, 74], [9, 75]], results := [], body := (.seq R_slices_siftDownOrdered_0 (.block 0 (.loop L_slices_siftDownOrdered_1))) }
noncomputable def T314 : { F : AFunc // CT.func [[1, 10], [11, 12, 13], [14, 15], [16, 17, 18, 19, 20, 21, 22, 23, 24, 25, 26, 27, 28, 29, 30, 31, 32, 33, 34, 35], [36, 37, 38], [36, 39, 40, 41, 42, 43, 44, 45, 46, 47, 48, 49, 50, 51], [8, 52, 53, 54, 55, 56, 57, 58, 59, 60, 61, 62, 63, 64, 65, 66, 67, 68, 69, 70, 71, 72, 73, 74], [9, 75]] Tryz.f314 = some F } := ⟨F_slices_siftDownOrdered, by kernel_rfl⟩
theorem c314 : Cert 314 T314.1 := cert_of T314.2 Tryz.func314
-- slices.nextPowerOfTwo
noncomputable def T315 : { F : AFunc // CT.func [[2], [0, 3, 4, 5, 6]] Tryz.f315 = some F } := by
  refine ⟨?F, ?h⟩
  case h =>
    conv => lhs; cbv
theorem c315 : Cert 315 T315.1 := cert_of T315.2 Tryz.func315
-- (*slices.xorshift).Next
noncomputable def T316 : { F : AFunc // CT.func [[2], [3, 4, 5, 6, 7, 8, 9, 10, 11], [12, 13, 14, 15, 16, 17, 18, 19, 20], [21, 22, 23, 24, 25, 26, 27, 28, 29], [0, 30, 31, 32]] Tryz.f316 = some F } := by
  refine ⟨?F, ?h⟩
  case h =>
    conv => lhs; cbv
theorem c316 : Cert 316 T316.1 := cert_of T316.2 Tryz.func316
-- slices.medianAdjacentOrdered[int]
noncomputable def T317 : { F : AFunc // CT.func [[6], [0, 1, 2, 7, 8, 9, 10, 11, 12, 13, 14]] Tryz.f317 = some F } := by
  refine ⟨?F, ?h⟩
  case h =>
    conv => lhs; cbv
theorem c317 : Cert 317 T317.1 := cert_of T317.2 Tryz.func317
-- slices.medianOrdered[int]
noncomputable def T318 : { F : AFunc // CT.func [[10], [11, 12, 13, 14, 15, 16, 17, 18], [3, 19, 20, 21, 22, 23, 24, 25, 26], [0, 1, 4, 27, 28, 29, 30, 31, 32, 33, 34], [2, 35]] Tryz.f318 = some F } := by
  refine ⟨?F, ?h⟩
  case h =>
    conv => lhs; cbv
theorem c318 : Cert 318 T318.1 := cert_of T318.2 Tryz.func318
-- slices.rotateCmpFunc[suffrage/api.Link]
noncomputable def T319 : { F : AFunc // CT.func [[1, 12, 13, 14], [3, 15, 16, 17], [18, 19], [20, 21, 22], [23, 24, 25, 26, 27, 28, 29, 30, 31], [32, 33, 34], [23, 35, 36, 37, 38, 39, 40, 41, 42, 43, 44, 45, 46], [47, 48, 49], [0, 2, 4, 10, 11, 20, 50, 51, 52, 53, 54, 55, 56, 57]] Tryz.f319 = some F } := by
  refine ⟨?F, ?h⟩
  case h =>
    conv => lhs; cbv
theorem c319 : Cert 319 T319.1 := cert_of T319.2 Tryz.func319
-- math/bits.LeadingZeros64
noncomputable def T320 : { F : AFunc // CT.func [[2], [0, 3, 4, 5]] Tryz.f320 = some F } := by
  refine ⟨?F, ?h⟩
  case h =>
    conv => lhs; cbv
theorem c320 : Cert 320 T320.1 := cert_of T320.2 Tryz.func320
-- slices.order2Ordered[int]
noncomputable def T321 : { F : AFunc // CT.func [[8, 9], [0, 10, 11, 12, 13, 14, 15, 16, 17], [3, 18, 19, 20, 21, 22, 23], [1, 2, 24, 25], [1, 2, 3, 18, 26, 27]] Tryz.f321 = some F } := by
  refine ⟨?F, ?h⟩
  case h =>
    conv => lhs; cbv
theorem c321 : Cert 321 T321.1 := cert_of T321.2 Tryz.func321
-- slices.swapRangeCmpFunc[suffrage/api.Link]
noncomputable def T322 : { F : AFunc // CT.func [[4], [11, 12], [14, 15], [13, 16, 17, 18, 19, 20, 21, 22, 23, 24, 25, 26, 27, 28, 29, 30, 31, 32, 33, 34, 35, 36, 37]] Tryz.f322 = some F } := by
  refine ⟨?F, ?h⟩
  case h =>
    conv => lhs; cbv
theorem c322 : Cert 322 T322.1 := cert_of T322.2 Tryz.func322
-- (suffrage/coombs.most).elects
noncomputable def T340 : { F : AFunc // CT.func [[0, 1, 3, 6, 7], [], [], [], [15, 16, 17], [10, 18, 19, 20], [21], [12, 13, 14, 15, 22, 23, 24, 25, 26], [2, 4, 8, 11, 27, 28, 29, 30, 31, 32, 33, 34, 35, 36, 37, 38, 39]] Tryz.f340 = some F } := by
  refine ⟨?F, ?h⟩
  case h =>
    conv => lhs; cbv
theorem c340 : Cert 340 T340.1 := cert_of T340.2 Tryz.func340
end Go.Proofs.YtmkaekblmbjhpaaGreat
