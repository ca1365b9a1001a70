/- The functions in the abstract language, worked out by Lean. -/
import Derived.Test.YtmkaekblmbjhpaaGreatAlX
set_option linter.unusedVariables false
set_option maxHeartbeats 1000000
set_option maxRecDepth 100000
namespace Go.Proofs.YtmkaekblmbjhpaaGreat
-- suffrage/profile.Check$1
noncomputable def T67 : { F : AFunc // CT.func [[0, 1, 7], [5, 8, 9, 10, 11, 12, 13, 14, 15, 16], [2, 3, 4, 6, 17], [2, 17], [3, 18, 19, 20, 21, 22, 23], [4, 6, 24, 25, 26, 27, 28, 29, 30, 31, 32, 33, 34, 35]] Tryz.f67 = some F } := by
  refine ⟨?F, ?h⟩
  case h =>
    conv => lhs; cbv
theorem c67 : Cert 67 T67.1 := cert_of T67.2 Tryz.func67
-- slices.Compare[[]int,int]
noncomputable def T68 : { F : AFunc // CT.func [[4], [], [], [12, 13, 14, 15], [16, 17, 18], [0, 1, 5, 6, 9, 10, 11, 19], [5, 19, 20, 21, 22, 23], [6, 7, 24, 25, 26], [27], [0, 1, 8, 9, 10, 11, 28, 29], [8, 28, 30], [0, 1, 9, 10, 11, 12, 31, 32, 33, 34], [35], [35]] Tryz.f68 = some F } := by
  refine ⟨?F, ?h⟩
  case h =>
    conv => lhs; cbv
theorem c68 : Cert 68 T68.1 := cert_of T68.2 Tryz.func68
-- suffrage/ballot.Check
noncomputable def T69 : { F : AFunc // CT.func [[0, 4], [5, 6], [1, 2, 7], [1, 2, 7, 8, 9, 10], [11], [11]] Tryz.f69 = some F } := by
  refine ⟨?F, ?h⟩
  case h =>
    conv => lhs; cbv
theorem c69 : Cert 69 T69.1 := cert_of T69.2 Tryz.func69
-- suffrage/profile.of
noncomputable def T70 : { F : AFunc // CT.func [[0, 1], [2, 3, 5, 6, 7, 8, 9]] Tryz.f70 = some F } := by
  refine ⟨?F, ?h⟩
  case h =>
    conv => lhs; cbv
theorem c70 : Cert 70 T70.1 := cert_of T70.2 Tryz.func70
-- suffrage/single.Plurality
noncomputable def T71 : { F : AFunc // CT.func [[0, 7], [1, 2, 3, 8, 9, 10, 11, 12, 13, 14]] Tryz.f71 = some F } := by
  refine ⟨?F, ?h⟩
  case h =>
    conv => lhs; cbv
theorem c71 : Cert 71 T71.1 := cert_of T71.2 Tryz.func71
-- suffrage/single.Approval
noncomputable def T72 : { F : AFunc // CT.func [[0, 7], [1, 2, 3, 8, 9, 10, 11, 12, 13, 14]] Tryz.f72 = some F } := by
  refine ⟨?F, ?h⟩
  case h =>
    conv => lhs; cbv
theorem c72 : Cert 72 T72.1 := cert_of T72.2 Tryz.func72
-- suffrage/single.Score
noncomputable def T73 : { F : AFunc // CT.func [[0, 7], [1, 2, 3, 8, 9, 10, 11, 12, 13, 14]] Tryz.f73 = some F } := by
  refine ⟨?F, ?h⟩
  case h =>
    conv => lhs; cbv
theorem c73 : Cert 73 T73.1 := cert_of T73.2 Tryz.func73
-- suffrage/single.Borda
noncomputable def T74 : { F : AFunc // CT.func [[0, 7], [1, 2, 3, 8, 9, 10, 11, 12, 13, 14]] Tryz.f74 = some F } := by
  refine ⟨?F, ?h⟩
  case h =>
    conv => lhs; cbv
theorem c74 : Cert 74 T74.1 := cert_of T74.2 Tryz.func74
-- suffrage/condorcet.Copeland
noncomputable def T75 : { F : AFunc // CT.func [[0, 7], [9], [1, 2, 3, 8, 10, 11, 12, 13, 14, 15, 16]] Tryz.f75 = some F } := by
  refine ⟨?F, ?h⟩
  case h =>
    conv => lhs; cbv
theorem c75 : Cert 75 T75.1 := cert_of T75.2 Tryz.func75
-- suffrage/condorcet.Minimax
noncomputable def T76 : { F : AFunc // CT.func [[0, 7], [9], [1, 2, 3, 8, 10, 11, 12, 13, 14, 15, 16]] Tryz.f76 = some F } := by
  refine ⟨?F, ?h⟩
  case h =>
    conv => lhs; cbv
theorem c76 : Cert 76 T76.1 := cert_of T76.2 Tryz.func76
-- suffrage/paths.Count
def R_paths_Count_0 : AC := .ops false [⟨some 3, .box (.t 0), none, []⟩,
  ⟨some 6, .alloc [.lst 0 [] (some 0), .lst 0 [] (some 0), .lst 0 [] (some 0)], none, []⟩,
  ⟨some 7, .mov (.c (.int .i64 0)), none, []⟩] [0, 7]
def R_paths_Count_1 : AC := .ops false [⟨some 18, .load 3 false (.t 3), none, []⟩,
  ⟨some 19, .mov (.t 1), none, []⟩,
  ⟨some 20, .mov (.t 2), none, []⟩,
  ⟨some 21, .call (.fn 128) [.t 18, .c (.int .u8 1), .t 19, .c (.int .i64 1), .t 20], none, []⟩,
  ⟨some 8, .mov (.t 21), none, []⟩] [1, 18, 19, 20, 21]
def R_paths_Count_2 : AC := .ops false [⟨some 22, .mov (.t 8), none, []⟩,
  ⟨some 23, .bin .neq (.t 22) (.c (.int .i64 0)), none, []⟩] [22]
def R_paths_Count_3 : AC := .ops false [⟨some 24, .build [.lst 0 [] (some 0), .lst 0 [] (some 0), .lst 0 [] (some 0)] [], none, []⟩,
  ⟨some 25, .mov (.t 8), none, []⟩,
  ⟨none, .store 3 (.t 6) (.t 24), none, []⟩,
  ⟨some 7, .mov (.t 25), none, []⟩] [2, 3, 8, 23, 24, 25]
def R_paths_Count_4 : AC := .ops false [⟨some 27, .load 3 false (.t 3), none, []⟩,
  ⟨some 28, .call (.fn 129) [.t 27], none, []⟩,
  ⟨some 26, .mov (.t 28), none, []⟩,
  ⟨some 29, .ext (.t 26) 0, none, []⟩,
  ⟨some 30, .ext (.t 26) 1, none, []⟩,
  ⟨some 9, .alloc [.int .i64 0, .int .i64 0, .int .i64 0, .int .i64 0, .int .i64 0, .int .i64 0, .int .i64 0, .int .i64 0, .int .i64 0, .int .i64 0, .int .i64 0, .int .i64 0, .int .i64 0, .int .i64 0, .int .i64 0, .int .i64 0, .int .i64 0, .int .i64 0, .int .i64 0, .int .i64 0, .int .i64 0, .int .i64 0, .int .i64 0, .int .i64 0, .int .i64 0, .int .i64 0, .int .i64 0, .int .i64 0, .int .i64 0, .int .i64 0, .int .i64 0, .int .i64 0, .int .i64 0, .int .i64 0, .int .i64 0, .int .i64 0, .int .i64 0, .int .i64 0, .int .i64 0, .int .i64 0, .int .i64 0, .int .i64 0, .int .i64 0, .int .i64 0, .int .i64 0, .int .i64 0, .int .i64 0, .int .i64 0, .int .i64 0, .int .i64 0, .int .i64 0, .int .i64 0, .int .i64 0, .int .i64 0, .int .i64 0, .int .i64 0, .int .i64 0, .int .i64 0, .int .i64 0, .int .i64 0, .int .i64 0, .int .i64 0, .int .i64 0, .int .i64 0, .int .i64 0, .int .i64 0, .int .i64 0, .int .i64 0, .int .i64 0, .int .i64 0, .int .i64 0, .int .i64 0, .int .i64 0, .int .i64 0, .int .i64 0, .int .i64 0, .int .i64 0, .int .i64 0, .int .i64 0, .int .i64 0, .int .i64 0, .int .i64 0, .int .i64 0, .int .i64 0, .int .i64 0, .int .i64 0, .int .i64 0, .int .i64 0, .int .i64 0, .int .i64 0, .int .i64 0, .int .i64 0, .int .i64 0, .int .i64 0, .int .i64 0, .int .i64 0, .int .i64 0, .int .i64 0, .int .i64 0, .int .i64 0], none, []⟩,
  ⟨none, .store 100 (.t 9) (.t 29), none, []⟩,
  ⟨some 10, .mov (.t 30), none, []⟩] [8, 10, 23, 26, 27, 28, 29, 30]
def R_paths_Count_5 : AC := .ops false [⟨some 32, .load 100 false (.t 9), none, []⟩,
  ⟨some 33, .fa (.t 3) 0, none, []⟩,
  ⟨some 34, .load 1 true (.t 33), none, []⟩,
  ⟨some 35, .call (.fn 130) [.t 32, .t 34], none, []⟩,
  ⟨some 31, .mov (.t 35), none, []⟩,
  ⟨some 36, .ext (.t 31) 0, none, []⟩,
  ⟨some 37, .ext (.t 31) 1, none, []⟩,
  ⟨some 11, .alloc [.int .i64 0, .int .i64 0, .int .i64 0, .int .i64 0, .int .i64 0, .int .i64 0, .int .i64 0, .int .i64 0, .int .i64 0, .int .i64 0, .int .i64 0, .int .i64 0, .int .i64 0, .int .i64 0, .int .i64 0, .int .i64 0, .int .i64 0, .int .i64 0, .int .i64 0, .int .i64 0, .int .i64 0, .int .i64 0, .int .i64 0, .int .i64 0, .int .i64 0, .int .i64 0, .int .i64 0, .int .i64 0, .int .i64 0, .int .i64 0, .int .i64 0, .int .i64 0, .int .i64 0, .int .i64 0, .int .i64 0, .int .i64 0, .int .i64 0, .int .i64 0, .int .i64 0, .int .i64 0, .int .i64 0, .int .i64 0, .int .i64 0, .int .i64 0, .int .i64 0, .int .i64 0, .int .i64 0, .int .i64 0, .int .i64 0, .int .i64 0, .int .i64 0, .int .i64 0, .int .i64 0, .int .i64 0, .int .i64 0, .int .i64 0, .int .i64 0, .int .i64 0, .int .i64 0, .int .i64 0, .int .i64 0, .int .i64 0, .int .i64 0, .int .i64 0, .int .i64 0, .int .i64 0, .int .i64 0, .int .i64 0, .int .i64 0, .int .i64 0, .int .i64 0, .int .i64 0, .int .i64 0, .int .i64 0, .int .i64 0, .int .i64 0, .int .i64 0, .int .i64 0, .int .i64 0, .int .i64 0, .int .i64 0, .int .i64 0, .int .i64 0, .int .i64 0, .int .i64 0, .int .i64 0, .int .i64 0, .int .i64 0, .int .i64 0, .int .i64 0, .int .i64 0, .int .i64 0, .int .i64 0, .int .i64 0, .int .i64 0, .int .i64 0, .int .i64 0, .int .i64 0, .int .i64 0, .int .i64 0], none, []⟩,
  ⟨none, .store 100 (.t 11) (.t 36), none, []⟩,
  ⟨some 12, .mov (.t 37), none, []⟩] [9, 12, 31, 32, 33, 34, 35, 36, 37]
def R_paths_Count_6 : AC := .ops false [⟨some 38, .fa (.t 3) 0, none, []⟩,
  ⟨some 39, .load 1 true (.t 38), none, []⟩,
  ⟨some 40, .mkslice 1 8 [.int .i64 0] (.t 39) (.t 39), none, []⟩,
  ⟨some 13, .alloc [.lst 0 [] (some 0)], none, []⟩,
  ⟨none, .store 1 (.t 13) (.t 40), none, []⟩] [38, 39, 40]
def R_paths_Count_7 : AC := .ops false [⟨some 41, .load 1 true (.t 13), none, []⟩,
  ⟨some 42, .len (.t 41), none, []⟩,
  ⟨some 43, .mov (.c (.int .i64 0)), none, []⟩] [41]
def R_paths_Count_8 : AC := .ops false [⟨some 44, .bin .lss (.t 43) (.t 42), none, []⟩] []
def R_paths_Count_9 : AC := .ops false [⟨some 45, .mov (.t 43), none, []⟩,
  ⟨some 14, .mov (.t 45), none, []⟩] [44, 45]
def R_paths_Count_10 : AC := .ops false [⟨some 46, .load 1 true (.t 13), none, []⟩,
  ⟨some 47, .len (.t 46), none, []⟩,
  ⟨some 48, .mov (.c (.int .i64 0)), none, []⟩] [46]
def R_paths_Count_11 : AC := .ops false [⟨some 49, .bin .lss (.t 48) (.t 47), none, []⟩] []
def R_paths_Count_12 : AC := .ops false [⟨some 50, .mov (.t 48), none, []⟩,
  ⟨some 15, .mov (.t 50), none, []⟩] [49, 50]
def R_paths_Count_13 : AC := .ops true [⟨some 51, .mov (.t 14), none, []⟩,
  ⟨some 52, .mov (.t 15), none, []⟩,
  ⟨some 53, .bin .neq (.t 51) (.t 52), none, [0, 1]⟩,
  ⟨some 54, .mov (.t 53), none, [2]⟩,
  ⟨some 55, .mov (.t 14), some (54, true), [3]⟩,
  ⟨some 56, .mov (.t 15), some (54, true), [3]⟩,
  ⟨some 57, .iaa 10 10 (.t 11) (.t 55), some (54, true), [4, 3]⟩,
  ⟨some 58, .iaa 1 10 (.t 57) (.t 56), some (54, true), [6, 5, 3]⟩,
  ⟨some 59, .load 1 true (.t 58), some (54, true), [7, 3]⟩,
  ⟨some 60, .mov (.t 15), some (54, true), [3]⟩,
  ⟨some 61, .mov (.t 14), some (54, true), [3]⟩,
  ⟨some 62, .iaa 10 10 (.t 11) (.t 60), some (54, true), [9, 3]⟩,
  ⟨some 63, .iaa 1 10 (.t 62) (.t 61), some (54, true), [11, 10, 3]⟩,
  ⟨some 64, .load 1 true (.t 63), some (54, true), [12, 3]⟩,
  ⟨some 65, .bin .geq (.t 59) (.t 64), some (54, true), [8, 13, 3]⟩,
  ⟨some 66, .pick (.t 54) (.t 65) (.c (.bool false)), none, [3, 14]⟩] [15, 51, 52, 53, 54, 55, 56, 57, 58, 59, 60, 61, 62, 63, 64, 65]
def R_paths_Count_14 : AC := .ops false [⟨some 67, .load 1 true (.t 13), none, []⟩,
  ⟨some 68, .mov (.t 14), none, []⟩,
  ⟨some 69, .ia 1 (.t 67) (.t 68), none, []⟩,
  ⟨some 70, .load 1 true (.t 69), none, []⟩,
  ⟨some 71, .bin .add (.t 70) (.c (.int .i64 1)), none, []⟩,
  ⟨some 72, .ia 1 (.t 67) (.t 68), none, []⟩,
  ⟨none, .store 1 (.t 72) (.t 71), none, []⟩] [66, 67, 68, 69, 70, 71, 72]
def R_paths_Count_15 : AC := .ops false [⟨some 73, .bin .add (.t 48) (.c (.int .i64 1)), none, []⟩,
  ⟨some 48, .mov (.t 73), none, []⟩] [66, 73]
def L_paths_Count_1 : AC := (.seq R_paths_Count_11 (.seq (.cond (.t 49) .skip (.exit 2)) (.seq (.block 3 (.seq R_paths_Count_12 (.seq R_paths_Count_13 (.cond (.t 66) R_paths_Count_14 .skip)))) R_paths_Count_15)))
def R_paths_Count_16 : AC := .ops false [⟨some 74, .bin .add (.t 43) (.c (.int .i64 1)), none, []⟩,
  ⟨some 43, .mov (.t 74), none, []⟩] [14, 47, 48, 49, 74]
def L_paths_Count_2 : AC := (.seq R_paths_Count_8 (.seq (.cond (.t 44) .skip (.exit 0)) (.seq (.block 1 (.seq R_paths_Count_9 (.seq R_paths_Count_10 (.block 2 (.loop L_paths_Count_1))))) R_paths_Count_16)))
def R_paths_Count_17 : AC := .ops false [⟨some 75, .mov (.t 2), none, []⟩,
  ⟨some 76, .call (.fn 131) [.t 75], none, []⟩,
  ⟨some 16, .mov (.t 76), none, []⟩] [2, 11, 42, 43, 44, 75, 76]
def R_paths_Count_18 : AC := .ops false [⟨some 77, .mov (.t 16), none, []⟩,
  ⟨some 78, .fa (.t 3) 0, none, []⟩,
  ⟨some 79, .load 1 true (.t 78), none, []⟩,
  ⟨some 80, .call (.fn 134) [.t 79], none, []⟩,
  ⟨some 81, .mkfn 135 [] [.t 13], none, []⟩,
  ⟨some 82, .call (.fn 133) [.t 80, .t 81], none, []⟩,
  ⟨some 83, .call (.fn 132) [.t 77, .t 82], none, []⟩,
  ⟨some 17, .mov (.t 83), none, []⟩] [3, 77, 78, 79, 80, 81, 82, 83]
def R_paths_Count_19 : AC := .ops false [⟨some 84, .mov (.t 16), none, []⟩,
  ⟨some 85, .mov (.t 17), none, []⟩,
  ⟨some 86, .bslice 1 [.int .i64 0] 1 [(0, .t 85)], none, []⟩,
  ⟨some 87, .nilchk (.t 84), none, []⟩,
  ⟨some 88, .fa (.t 87) 0, none, []⟩,
  ⟨some 89, .fa (.t 88) 0, none, []⟩,
  ⟨none, .store 1 (.t 89) (.t 86), none, []⟩] [84, 85, 86, 87, 88, 89]
def R_paths_Count_20 : AC := .ops false [⟨some 90, .mov (.t 16), none, []⟩,
  ⟨some 91, .load 1 true (.t 13), none, []⟩,
  ⟨some 92, .call (.fn 136) [.t 91], none, []⟩,
  ⟨some 93, .call (.fn 12) [.c (.int .i64 0)], none, []⟩,
  ⟨some 94, .mov (.t 17), none, []⟩,
  ⟨some 95, .bslice 1 [.int .i64 0] 1 [(0, .t 94)], none, []⟩,
  ⟨some 96, .build [.lst 0 [] (some 0), .bool false, .lst 0 [] (some 0), .lst 0 [] (some 0), .lst 0 [] (some 0), .lst 0 [] (some 0)] [(0, 1, .t 92), (1, 3, .t 93), (4, 1, .t 95)], none, []⟩,
  ⟨some 97, .bslice 6 [.lst 0 [] (some 0), .bool false, .lst 0 [] (some 0), .lst 0 [] (some 0), .lst 0 [] (some 0), .lst 0 [] (some 0)] 1 [(0, .t 96)], none, []⟩,
  ⟨some 98, .nilchk (.t 90), none, []⟩,
  ⟨some 99, .fa (.t 98) 0, none, []⟩,
  ⟨some 100, .fa (.t 99) 1, none, []⟩,
  ⟨none, .store 1 (.t 100) (.t 97), none, []⟩] [13, 17, 90, 91, 92, 93, 94, 95, 96, 97, 98, 99, 100]
def R_paths_Count_21 : AC := .ops false [⟨some 101, .mov (.t 16), none, []⟩,
  ⟨some 102, .nilchk (.t 101), none, []⟩,
  ⟨some 103, .fa (.t 102) 0, none, []⟩,
  ⟨some 104, .load 3 false (.t 103), none, []⟩,
  ⟨none, .store 3 (.t 6) (.t 104), none, []⟩,
  ⟨some 7, .mov (.c (.int .i64 0)), none, []⟩] [16, 101, 102, 103, 104]
def F_paths_Count : AFunc := { ntmps := 105, nargs := 3, kills := [[0, 7], [1, 18, 19, 20, 21], [22], [2, 3, 8, 23, 24, 25], [8, 10, 23, 26, 27, 28, 29, 30], [9, 12, 31, 32, 33, 34, 35, 36, 37], [38, 39, 40], [41], [], [44, 45], [46], [], [49, 50], [15, 51, 52, 53, 54, 55, 56, 57, 58, 59, 60, 61, 62, 63, 64, 65], [66, 67, 68, 69, 70, 71, 72], [66, 73], [14, 47, 48, 49, 74], [2, 11, 42, 43, 44, 75, 76], [3, 77, 78, 79, 80, 81, 82, 83], [84, 85, 86, 87, 88, 89], [13, 17, 90, 91, 92, 93, 94, 95, 96, 97, 98, 99, 100], [16, 101, 102, 103, 104]], results := [.cell 6 3 false, .t 7], body := (.seq R_paths_Count_0 (.seq (.seq R_paths_Count_1 (.seq R_paths_Count_2 (.cond (.t 23) (.seq R_paths_Count_3 .ret) .skip))) (.seq R_paths_Count_4 (.seq R_paths_Count_5 (.seq R_paths_Count_6 (.seq (.seq R_paths_Count_7 (.block 0 (.loop L_paths_Count_2))) (.seq R_paths_Count_17 (.seq R_paths_Count_18 (.seq R_paths_Count_19 (.seq R_paths_Count_20 (.seq R_paths_Count_21 .ret))))))))))) }
noncomputable def T77 : { F : AFunc // CT.func [[0, 7], [1, 18, 19, 20, 21], [22], [2, 3, 8, 23, 24, 25], [8, 10, 23, 26, 27, 28, 29, 30], [9, 12, 31, 32, 33, 34, 35, 36, 37], [38, 39, 40], [41], [], [44, 45], [46], [], [49, 50], [15, 51, 52, 53, 54, 55, 56, 57, 58, 59, 60, 61, 62, 63, 64, 65], [66, 67, 68, 69, 70, 71, 72], [66, 73], [14, 47, 48, 49, 74], [2, 11, 42, 43, 44, 75, 76], [3, 77, 78, 79, 80, 81, 82, 83], [84, 85, 86, 87, 88, 89], [13, 17, 90, 91, 92, 93, 94, 95, 96, 97, 98, 99, 100], [16, 101, 102, 103, 104]] Tryz.f77 = some F } := ⟨F_paths_Count, by kernel_rfl⟩
theorem c77 : Cert 77 T77.1 := cert_of T77.2 Tryz.func77
-- suffrage/ranked.Count
def R_ranked_Count_0 : AC := .ops false [⟨some 3, .box (.t 0), none, []⟩,
  ⟨some 6, .alloc [.lst 0 [] (some 0), .lst 0 [] (some 0), .lst 0 [] (some 0)], none, []⟩,
  ⟨some 7, .mov (.c (.int .i64 0)), none, []⟩] [0, 7]
def R_ranked_Count_1 : AC := .ops false [⟨some 19, .load 3 false (.t 3), none, []⟩,
  ⟨some 20, .mov (.t 1), none, []⟩,
  ⟨some 21, .mov (.t 2), none, []⟩,
  ⟨some 22, .call (.fn 128) [.t 19, .c (.int .u8 1), .t 20, .c (.int .i64 1), .t 21], none, []⟩,
  ⟨some 8, .mov (.t 22), none, []⟩] [1, 19, 20, 21, 22]
def R_ranked_Count_2 : AC := .ops false [⟨some 23, .mov (.t 8), none, []⟩,
  ⟨some 24, .bin .neq (.t 23) (.c (.int .i64 0)), none, []⟩] [23]
def R_ranked_Count_3 : AC := .ops false [⟨some 25, .build [.lst 0 [] (some 0), .lst 0 [] (some 0), .lst 0 [] (some 0)] [], none, []⟩,
  ⟨some 26, .mov (.t 8), none, []⟩,
  ⟨none, .store 3 (.t 6) (.t 25), none, []⟩,
  ⟨some 7, .mov (.t 26), none, []⟩] [2, 3, 8, 24, 25, 26]
def R_ranked_Count_4 : AC := .ops false [⟨some 28, .load 3 false (.t 3), none, []⟩,
  ⟨some 29, .call (.fn 129) [.t 28], none, []⟩,
  ⟨some 27, .mov (.t 29), none, []⟩,
  ⟨some 30, .ext (.t 27) 0, none, []⟩,
  ⟨some 31, .ext (.t 27) 1, none, []⟩,
  ⟨some 9, .alloc [.int .i64 0, .int .i64 0, .int .i64 0, .int .i64 0, .int .i64 0, .int .i64 0, .int .i64 0, .int .i64 0, .int .i64 0, .int .i64 0, .int .i64 0, .int .i64 0, .int .i64 0, .int .i64 0, .int .i64 0, .int .i64 0, .int .i64 0, .int .i64 0, .int .i64 0, .int .i64 0, .int .i64 0, .int .i64 0, .int .i64 0, .int .i64 0, .int .i64 0, .int .i64 0, .int .i64 0, .int .i64 0, .int .i64 0, .int .i64 0, .int .i64 0, .int .i64 0, .int .i64 0, .int .i64 0, .int .i64 0, .int .i64 0, .int .i64 0, .int .i64 0, .int .i64 0, .int .i64 0, .int .i64 0, .int .i64 0, .int .i64 0, .int .i64 0, .int .i64 0, .int .i64 0, .int .i64 0, .int .i64 0, .int .i64 0, .int .i64 0, .int .i64 0, .int .i64 0, .int .i64 0, .int .i64 0, .int .i64 0, .int .i64 0, .int .i64 0, .int .i64 0, .int .i64 0, .int .i64 0, .int .i64 0, .int .i64 0, .int .i64 0, .int .i64 0, .int .i64 0, .int .i64 0, .int .i64 0, .int .i64 0, .int .i64 0, .int .i64 0, .int .i64 0, .int .i64 0, .int .i64 0, .int .i64 0, .int .i64 0, .int .i64 0, .int .i64 0, .int .i64 0, .int .i64 0, .int .i64 0, .int .i64 0, .int .i64 0, .int .i64 0, .int .i64 0, .int .i64 0, .int .i64 0, .int .i64 0, .int .i64 0, .int .i64 0, .int .i64 0, .int .i64 0, .int .i64 0, .int .i64 0, .int .i64 0, .int .i64 0, .int .i64 0, .int .i64 0, .int .i64 0, .int .i64 0, .int .i64 0], none, []⟩,
  ⟨none, .store 100 (.t 9) (.t 30), none, []⟩,
  ⟨some 10, .mov (.t 31), none, []⟩] [8, 10, 24, 27, 28, 29, 30, 31]
def R_ranked_Count_5 : AC := .ops false [⟨some 33, .load 100 false (.t 9), none, []⟩,
  ⟨some 34, .fa (.t 3) 0, none, []⟩,
  ⟨some 35, .load 1 true (.t 34), none, []⟩,
  ⟨some 36, .mov (.t 2), none, []⟩,
  ⟨some 37, .call (.fn 137) [.t 33, .t 35, .t 36], none, []⟩,
  ⟨some 32, .mov (.t 37), none, []⟩,
  ⟨some 38, .ext (.t 32) 0, none, []⟩,
  ⟨some 39, .ext (.t 32) 1, none, []⟩,
  ⟨some 11, .mov (.t 38), none, []⟩,
  ⟨some 12, .mov (.t 39), none, []⟩] [9, 12, 32, 33, 34, 35, 36, 37, 38, 39]
def R_ranked_Count_6 : AC := .ops true [⟨some 40, .fa (.t 3) 0, none, []⟩,
  ⟨some 41, .load 1 true (.t 40), none, [0]⟩,
  ⟨some 42, .mkslice 1 8 [.int .i64 0] (.t 41) (.t 41), none, [1, 1]⟩,
  ⟨some 43, .fa (.t 3) 0, none, []⟩,
  ⟨some 44, .load 1 true (.t 43), none, [3]⟩,
  ⟨some 45, .call (.fn 134) [.t 44], none, [4]⟩,
  ⟨some 13, .mov (.t 42), none, [2, 5, 0, 1, 2]⟩,
  ⟨some 14, .mov (.t 45), none, [5, 6, 0, 1, 2, 3, 4, 5, 6]⟩] [3, 40, 41, 42, 43, 44, 45]
def R_ranked_Count_7 : AC := .ops false [⟨some 46, .mov (.t 11), none, []⟩,
  ⟨some 47, .len (.t 46), none, []⟩,
  ⟨some 48, .mov (.c (.int .i64 0)), none, []⟩] []
def R_ranked_Count_8 : AC := .ops false [⟨some 49, .bin .lss (.t 48) (.t 47), none, []⟩] []
def R_ranked_Count_9 : AC := .ops false [⟨some 50, .mov (.t 48), none, []⟩,
  ⟨some 51, .ia 4 (.t 46) (.t 48), none, []⟩,
  ⟨some 52, .load 4 false (.t 51), none, []⟩,
  ⟨some 16, .alloc [.int .i64 0, .int .i64 0, .int .i64 0, .int .i64 0], none, []⟩,
  ⟨some 15, .mov (.t 50), none, []⟩,
  ⟨none, .store 4 (.t 16) (.t 52), none, []⟩] [49, 50, 51, 52]
def R_ranked_Count_10 : AC := .ops true [⟨some 53, .mov (.t 11), none, []⟩,
  ⟨some 54, .mov (.t 15), none, []⟩,
  ⟨some 55, .slice 4 (.t 53) none (some (.t 54)) none, none, [0, 1]⟩,
  ⟨some 56, .load 4 false (.t 16), none, []⟩,
  ⟨some 57, .call (.fn 138) [.t 55, .t 56], none, [2, 3]⟩,
  ⟨some 58, .un .not (.t 57), none, [4]⟩] [15, 53, 54, 55, 56, 57]
def R_ranked_Count_11 : AC := .ops false [⟨some 59, .mov (.t 13), none, []⟩,
  ⟨some 60, .fa (.t 16) 0, none, []⟩,
  ⟨some 61, .load 1 true (.t 60), none, []⟩,
  ⟨some 62, .ia 1 (.t 59) (.t 61), none, []⟩,
  ⟨some 63, .load 1 true (.t 62), none, []⟩,
  ⟨some 64, .bin .add (.t 63) (.c (.int .i64 1)), none, []⟩,
  ⟨some 65, .ia 1 (.t 59) (.t 61), none, []⟩,
  ⟨none, .store 1 (.t 65) (.t 64), none, []⟩] [58, 59, 60, 61, 62, 63, 64, 65]
def R_ranked_Count_12 : AC := .ops false [⟨some 66, .mov (.t 14), none, []⟩,
  ⟨some 67, .mkfn 140 [] [.t 16], none, []⟩,
  ⟨some 68, .call (.fn 139) [.t 66, .t 67], none, []⟩,
  ⟨some 14, .mov (.t 68), none, []⟩] [16, 58, 66, 67, 68]
def R_ranked_Count_13 : AC := .ops false [⟨some 69, .bin .add (.t 48) (.c (.int .i64 1)), none, []⟩,
  ⟨some 48, .mov (.t 69), none, []⟩] [69]
def L_ranked_Count_1 : AC := (.seq R_ranked_Count_8 (.seq (.cond (.t 49) .skip (.exit 0)) (.seq (.block 1 (.seq R_ranked_Count_9 (.seq (.seq R_ranked_Count_10 (.cond (.t 58) R_ranked_Count_11 .skip)) R_ranked_Count_12))) R_ranked_Count_13)))
def R_ranked_Count_14 : AC := .ops false [⟨some 70, .mov (.t 2), none, []⟩,
  ⟨some 71, .call (.fn 131) [.t 70], none, []⟩,
  ⟨some 17, .mov (.t 71), none, []⟩] [2, 11, 46, 47, 48, 49, 70, 71]
def R_ranked_Count_15 : AC := .ops false [⟨some 72, .mov (.t 17), none, []⟩,
  ⟨some 73, .mov (.t 14), none, []⟩,
  ⟨some 74, .call (.fn 132) [.t 72, .t 73], none, []⟩,
  ⟨some 18, .mov (.t 74), none, []⟩] [14, 72, 73, 74]
def R_ranked_Count_16 : AC := .ops false [⟨some 75, .mov (.t 17), none, []⟩,
  ⟨some 76, .mov (.t 18), none, []⟩,
  ⟨some 77, .bslice 1 [.int .i64 0] 1 [(0, .t 76)], none, []⟩,
  ⟨some 78, .nilchk (.t 75), none, []⟩,
  ⟨some 79, .fa (.t 78) 0, none, []⟩,
  ⟨some 80, .fa (.t 79) 0, none, []⟩,
  ⟨none, .store 1 (.t 80) (.t 77), none, []⟩] [75, 76, 77, 78, 79, 80]
def R_ranked_Count_17 : AC := .ops false [⟨some 81, .mov (.t 17), none, []⟩,
  ⟨some 82, .mov (.t 13), none, []⟩,
  ⟨some 83, .call (.fn 136) [.t 82], none, []⟩,
  ⟨some 84, .call (.fn 12) [.c (.int .i64 0)], none, []⟩,
  ⟨some 85, .mov (.t 18), none, []⟩,
  ⟨some 86, .bslice 1 [.int .i64 0] 1 [(0, .t 85)], none, []⟩,
  ⟨some 87, .build [.lst 0 [] (some 0), .bool false, .lst 0 [] (some 0), .lst 0 [] (some 0), .lst 0 [] (some 0), .lst 0 [] (some 0)] [(0, 1, .t 83), (1, 3, .t 84), (4, 1, .t 86)], none, []⟩,
  ⟨some 88, .bslice 6 [.lst 0 [] (some 0), .bool false, .lst 0 [] (some 0), .lst 0 [] (some 0), .lst 0 [] (some 0), .lst 0 [] (some 0)] 1 [(0, .t 87)], none, []⟩,
  ⟨some 89, .nilchk (.t 81), none, []⟩,
  ⟨some 90, .fa (.t 89) 0, none, []⟩,
  ⟨some 91, .fa (.t 90) 1, none, []⟩,
  ⟨none, .store 1 (.t 91) (.t 88), none, []⟩] [13, 18, 81, 82, 83, 84, 85, 86, 87, 88, 89, 90, 91]
def R_ranked_Count_18 : AC := .ops false [⟨some 92, .mov (.t 17), none, []⟩,
  ⟨some 93, .nilchk (.t 92), none, []⟩,
  ⟨some 94, .fa (.t 93) 0, none, []⟩,
  ⟨some 95, .load 3 false (.t 94), none, []⟩,
  ⟨none, .store 3 (.t 6) (.t 95), none, []⟩,
  ⟨some 7, .mov (.c (.int .i64 0)), none, []⟩] [17, 92, 93, 94, 95]
def F_ranked_Count : AFunc := { ntmps := 96, nargs := 3, kills := [[0, 7], [1, 19, 20, 21, 22], [23], [2, 3, 8, 24, 25, 26], [8, 10, 24, 27, 28, 29, 30, 31], [9, 12, 32, 33, 34, 35, 36, 37, 38, 39], [3, 40, 41, 42, 43, 44, 45], [], [], [49, 50, 51, 52], [15, 53, 54, 55, 56, 57], [58, 59, 60, 61, 62, 63, 64, 65], [16, 58, 66, 67, 68], [69], [2, 11, 46, 47, 48, 49, 70, 71], [14, 72, 73, 74], [75, 76, 77, 78, 79, 80], [13, 18, 81, 82, 83, 84, 85, 86, 87, 88, 89, 90, 91], [17, 92, 93, 94, 95]], results := [.cell 6 3 false, .t 7], body := (.seq R_ranked_Count_0 (.seq (.seq R_ranked_Count_1 (.seq R_ranked_Count_2 (.cond (.t 24) (.seq R_ranked_Count_3 .ret) .skip))) (.seq R_ranked_Count_4 (.seq R_ranked_Count_5 (.seq R_ranked_Count_6 (.seq (.seq R_ranked_Count_7 (.block 0 (.loop L_ranked_Count_1))) (.seq R_ranked_Count_14 (.seq R_ranked_Count_15 (.seq R_ranked_Count_16 (.seq R_ranked_Count_17 (.seq R_ranked_Count_18 .ret))))))))))) }
noncomputable def T78 : { F : AFunc // CT.func [[0, 7], [1, 19, 20, 21, 22], [23], [2, 3, 8, 24, 25, 26], [8, 10, 24, 27, 28, 29, 30, 31], [9, 12, 32, 33, 34, 35, 36, 37, 38, 39], [3, 40, 41, 42, 43, 44, 45], [], [], [49, 50, 51, 52], [15, 53, 54, 55, 56, 57], [58, 59, 60, 61, 62, 63, 64, 65], [16, 58, 66, 67, 68], [69], [2, 11, 46, 47, 48, 49, 70, 71], [14, 72, 73, 74], [75, 76, 77, 78, 79, 80], [13, 18, 81, 82, 83, 84, 85, 86, 87, 88, 89, 90, 91], [17, 92, 93, 94, 95]] Tryz.f78 = some F } := ⟨F_ranked_Count, by kernel_rfl⟩
theorem c78 : Cert 78 T78.1 := cert_of T78.2 Tryz.func78
-- suffrage/runoff.Count
noncomputable def T79 : { F : AFunc // CT.func [[0, 7], [1, 10, 11, 12, 13], [14], [2, 3, 8, 15, 16, 17], [2, 3, 8, 15, 18, 19, 20, 21, 22, 23, 24, 25], [26, 27], [9, 28, 29, 30, 31, 32, 33, 34, 35]] Tryz.f79 = some F } := by
  refine ⟨?F, ?h⟩
  case h =>
    conv => lhs; cbv
theorem c79 : Cert 79 T79.1 := cert_of T79.2 Tryz.func79
-- suffrage/coombs.Count
noncomputable def T80 : { F : AFunc // CT.func [[0, 7], [1, 9, 10, 11, 12], [13], [2, 3, 8, 14, 15, 16], [2, 3, 8, 14, 17, 18, 19, 20, 21, 22]] Tryz.f80 = some F } := by
  refine ⟨?F, ?h⟩
  case h =>
    conv => lhs; cbv
theorem c80 : Cert 80 T80.1 := cert_of T80.2 Tryz.func80
-- suffrage/gregory.Count
def R_gregory_Count_0 : AC := .ops false [⟨some 3, .box (.t 0), none, []⟩,
  ⟨some 6, .alloc [.lst 0 [] (some 0), .lst 0 [] (some 0), .lst 0 [] (some 0)], none, []⟩,
  ⟨some 7, .mov (.c (.int .i64 0)), none, []⟩] [0, 7]
def R_gregory_Count_1 : AC := .ops false [⟨some 14, .load 3 false (.t 3), none, []⟩,
  ⟨some 15, .mov (.t 1), none, []⟩,
  ⟨some 16, .fa (.t 3) 0, none, []⟩,
  ⟨some 17, .load 1 true (.t 16), none, []⟩,
  ⟨some 18, .mov (.t 2), none, []⟩,
  ⟨some 19, .call (.fn 128) [.t 14, .c (.int .u8 1), .t 15, .t 17, .t 18], none, []⟩,
  ⟨some 8, .mov (.t 19), none, []⟩] [14, 15, 16, 17, 18, 19]
def R_gregory_Count_2 : AC := .ops false [⟨some 20, .mov (.t 8), none, []⟩,
  ⟨some 21, .bin .neq (.t 20) (.c (.int .i64 0)), none, []⟩] [20]
def R_gregory_Count_3 : AC := .ops false [⟨some 22, .build [.lst 0 [] (some 0), .lst 0 [] (some 0), .lst 0 [] (some 0)] [], none, []⟩,
  ⟨some 23, .mov (.t 8), none, []⟩,
  ⟨none, .store 3 (.t 6) (.t 22), none, []⟩,
  ⟨some 7, .mov (.t 23), none, []⟩] [1, 2, 3, 8, 21, 22, 23]
def R_gregory_Count_4 : AC := .ops false [⟨some 25, .load 3 false (.t 3), none, []⟩,
  ⟨some 26, .mov (.t 1), none, []⟩,
  ⟨some 27, .call (.fn 143) [.t 25, .t 26], none, []⟩,
  ⟨some 24, .mov (.t 27), none, []⟩,
  ⟨some 28, .ext (.t 24) 0, none, []⟩,
  ⟨some 29, .ext (.t 24) 1, none, []⟩,
  ⟨some 9, .mov (.t 28), none, []⟩,
  ⟨some 10, .mov (.t 29), none, []⟩] [8, 10, 21, 24, 25, 26, 27, 28, 29]
def R_gregory_Count_5 : AC := .ops false [⟨some 30, .mov (.t 2), none, []⟩,
  ⟨some 31, .call (.fn 131) [.t 30], none, []⟩,
  ⟨some 32, .mov (.t 1), none, []⟩,
  ⟨some 33, .mov (.t 9), none, []⟩,
  ⟨some 34, .bin .mul (.t 33) (.c (.int .i64 1000000000)), none, []⟩,
  ⟨some 35, .build [.nilp, .lst 0 [] (some 0), .lst 0 [] (some 0), .int .i64 0, .int .i64 0, .int .i64 0] [(0, 1, .t 31), (3, 1, .t 32), (4, 1, .t 34)], none, []⟩,
  ⟨some 36, .box (.t 35), none, []⟩,
  ⟨some 11, .mov (.t 36), none, []⟩] [2, 9, 30, 31, 32, 33, 34, 35, 36]
def R_gregory_Count_6 : AC := .ops false [⟨some 38, .mov (.t 11), none, []⟩,
  ⟨some 39, .load 3 false (.t 3), none, []⟩,
  ⟨some 40, .call (.fn 144) [.t 39], none, []⟩,
  ⟨some 37, .mov (.t 40), none, []⟩,
  ⟨some 41, .ext (.t 37) 0, none, []⟩,
  ⟨some 42, .ext (.t 37) 1, none, []⟩,
  ⟨some 43, .nilchk (.t 38), none, []⟩,
  ⟨some 44, .fa (.t 43) 5, none, []⟩,
  ⟨none, .store 1 (.t 44) (.t 41), none, []⟩] [37, 38, 39, 40, 41, 42, 43, 44]
def R_gregory_Count_7 : AC := .ops false [⟨some 45, .fa (.t 3) 2, none, []⟩,
  ⟨some 46, .load 1 true (.t 45), none, []⟩,
  ⟨some 47, .len (.t 46), none, []⟩,
  ⟨some 48, .mov (.c (.int .i64 0)), none, []⟩] [45]
def R_gregory_Count_8 : AC := .ops false [⟨some 49, .bin .lss (.t 48) (.t 47), none, []⟩] []
def R_gregory_Count_9 : AC := .ops false [⟨some 50, .ia 2 (.t 46) (.t 48), none, []⟩,
  ⟨some 51, .load 2 false (.t 50), none, []⟩,
  ⟨some 13, .alloc [.lst 0 [] (some 0), .int .i64 0], none, []⟩,
  ⟨none, .store 2 (.t 13) (.t 51), none, []⟩] [49, 50, 51]
def R_gregory_Count_10 : AC := .ops true [⟨some 52, .mov (.t 11), none, []⟩,
  ⟨some 53, .mov (.t 11), none, []⟩,
  ⟨some 54, .nilchk (.t 53), none, [1]⟩,
  ⟨some 55, .fa (.t 54) 1, none, [2]⟩,
  ⟨some 56, .load 1 true (.t 55), none, [3]⟩,
  ⟨some 57, .fa (.t 13) 0, none, []⟩,
  ⟨some 58, .load 1 true (.t 57), none, [5]⟩,
  ⟨some 59, .fa (.t 13) 1, none, []⟩,
  ⟨some 60, .load 1 true (.t 59), none, [7]⟩,
  ⟨some 61, .build [.lst 0 [] (some 0), .int .i64 0, .int .i64 0] [(0, 1, .t 58), (1, 1, .t 60), (2, 1, .c (.int .i64 1000000000))], none, [6, 8]⟩,
  ⟨some 62, .bslice 3 [.lst 0 [] (some 0), .int .i64 0, .int .i64 0] 1 [(0, .t 61)], none, [9]⟩,
  ⟨some 63, .append 3 40 (.t 56) (.t 62), none, [4, 10]⟩,
  ⟨some 64, .nilchk (.t 52), none, [0, 0, 1, 2, 3, 4, 5, 6, 7, 8, 9, 10, 11]⟩,
  ⟨some 65, .fa (.t 64) 1, none, [12, 0, 1, 2, 3, 4, 5, 6, 7, 8, 9, 10, 11]⟩,
  ⟨none, .store 1 (.t 65) (.t 63), none, [13, 11, 11, 0, 1, 2, 3, 4, 5, 6, 7, 8, 9, 10, 11]⟩] [13, 52, 53, 54, 55, 56, 57, 58, 59, 60, 61, 62, 63, 64, 65]
def R_gregory_Count_11 : AC := .ops false [⟨some 66, .bin .add (.t 48) (.c (.int .i64 1)), none, []⟩,
  ⟨some 48, .mov (.t 66), none, []⟩] [66]
def L_gregory_Count_1 : AC := (.seq R_gregory_Count_8 (.seq (.cond (.t 49) .skip (.exit 0)) (.seq (.block 1 (.seq R_gregory_Count_9 R_gregory_Count_10)) R_gregory_Count_11)))
def R_gregory_Count_12 : AC := .ops false [⟨some 67, .fa (.t 3) 0, none, []⟩,
  ⟨some 68, .load 1 true (.t 67), none, []⟩,
  ⟨some 69, .mov (.c (.int .i64 0)), none, []⟩] [3, 46, 47, 48, 49, 67]
def R_gregory_Count_13 : AC := .ops false [⟨some 70, .bin .lss (.t 69) (.t 68), none, []⟩] []
def R_gregory_Count_14 : AC := .ops false [⟨some 71, .mov (.t 11), none, []⟩,
  ⟨some 72, .mov (.t 11), none, []⟩,
  ⟨some 73, .nilchk (.t 72), none, []⟩,
  ⟨some 74, .fa (.t 73) 2, none, []⟩,
  ⟨some 75, .load 1 true (.t 74), none, []⟩,
  ⟨some 76, .build [] [], none, []⟩,
  ⟨some 77, .mkiface 250 (.t 76), none, []⟩,
  ⟨some 78, .bslice 1 [.nili] 1 [(0, .t 77)], none, []⟩,
  ⟨some 79, .append 1 16 (.t 75) (.t 78), none, []⟩,
  ⟨some 80, .nilchk (.t 71), none, []⟩,
  ⟨some 81, .fa (.t 80) 2, none, []⟩,
  ⟨none, .store 1 (.t 81) (.t 79), none, []⟩] [70, 71, 72, 73, 74, 75, 76, 77, 78, 79, 80, 81]
def R_gregory_Count_15 : AC := .ops false [⟨some 82, .bin .add (.t 69) (.c (.int .i64 1)), none, []⟩,
  ⟨some 69, .mov (.t 82), none, []⟩] [82]
def L_gregory_Count_2 : AC := (.seq R_gregory_Count_13 (.seq (.cond (.t 70) .skip (.exit 2)) (.seq (.block 3 R_gregory_Count_14) R_gregory_Count_15)))
def R_gregory_Count_16 : AC := .ops false [⟨some 83, .mov (.t 11), none, []⟩,
  ⟨some 84, .nilchk (.t 83), none, []⟩,
  ⟨some 85, .fa (.t 84) 0, none, []⟩,
  ⟨some 86, .load 1 true (.t 85), none, []⟩,
  ⟨some 87, .nilchk (.t 86), none, []⟩,
  ⟨some 88, .fa (.t 87) 0, none, []⟩,
  ⟨some 89, .fa (.t 88) 0, none, []⟩,
  ⟨some 90, .load 1 true (.t 89), none, []⟩,
  ⟨some 91, .len (.t 90), none, []⟩,
  ⟨some 92, .mov (.t 1), none, []⟩,
  ⟨some 93, .bin .lss (.t 91) (.t 92), none, []⟩] [68, 69, 70, 83, 84, 85, 86, 87, 88, 89, 90, 91, 92]
def R_gregory_Count_17 : AC := .ops false [⟨some 94, .mov (.t 11), none, []⟩,
  ⟨some 95, .call (.fn 145) [.t 94], none, []⟩] [93, 94, 95]
def L_gregory_Count_3 : AC := (.seq (.seq R_gregory_Count_16 (.cond (.t 93) .skip (.exit 4))) (.block 5 R_gregory_Count_17))
def R_gregory_Count_18 : AC := .ops false [⟨some 96, .mov (.t 11), none, []⟩,
  ⟨some 97, .nilchk (.t 96), none, []⟩,
  ⟨some 98, .fa (.t 97) 0, none, []⟩,
  ⟨some 99, .load 1 true (.t 98), none, []⟩,
  ⟨some 100, .nilchk (.t 99), none, []⟩,
  ⟨some 101, .fa (.t 100) 0, none, []⟩,
  ⟨some 102, .load 3 false (.t 101), none, []⟩,
  ⟨none, .store 3 (.t 6) (.t 102), none, []⟩,
  ⟨some 7, .mov (.c (.int .i64 0)), none, []⟩] [1, 11, 93, 96, 97, 98, 99, 100, 101, 102]
def F_gregory_Count : AFunc := { ntmps := 103, nargs := 3, kills := [[0, 7], [14, 15, 16, 17, 18, 19], [20], [1, 2, 3, 8, 21, 22, 23], [8, 10, 21, 24, 25, 26, 27, 28, 29], [2, 9, 30, 31, 32, 33, 34, 35, 36], [37, 38, 39, 40, 41, 42, 43, 44], [45], [], [49, 50, 51], [13, 52, 53, 54, 55, 56, 57, 58, 59, 60, 61, 62, 63, 64, 65], [66], [3, 46, 47, 48, 49, 67], [], [70, 71, 72, 73, 74, 75, 76, 77, 78, 79, 80, 81], [82], [68, 69, 70, 83, 84, 85, 86, 87, 88, 89, 90, 91, 92], [93, 94, 95], [1, 11, 93, 96, 97, 98, 99, 100, 101, 102]], results := [.cell 6 3 false, .t 7], body := (.seq R_gregory_Count_0 (.seq (.seq R_gregory_Count_1 (.seq R_gregory_Count_2 (.cond (.t 21) (.seq R_gregory_Count_3 .ret) .skip))) (.seq R_gregory_Count_4 (.seq R_gregory_Count_5 (.seq R_gregory_Count_6 (.seq (.seq R_gregory_Count_7 (.block 0 (.loop L_gregory_Count_1))) (.seq (.seq R_gregory_Count_12 (.block 2 (.loop L_gregory_Count_2))) (.seq (.block 4 (.loop L_gregory_Count_3)) (.seq R_gregory_Count_18 .ret))))))))) }
noncomputable def T81 : { F : AFunc // CT.func [[0, 7], [14, 15, 16, 17, 18, 19], [20], [1, 2, 3, 8, 21, 22, 23], [8, 10, 21, 24, 25, 26, 27, 28, 29], [2, 9, 30, 31, 32, 33, 34, 35, 36], [37, 38, 39, 40, 41, 42, 43, 44], [45], [], [49, 50, 51], [13, 52, 53, 54, 55, 56, 57, 58, 59, 60, 61, 62, 63, 64, 65], [66], [3, 46, 47, 48, 49, 67], [], [70, 71, 72, 73, 74, 75, 76, 77, 78, 79, 80, 81], [82], [68, 69, 70, 83, 84, 85, 86, 87, 88, 89, 90, 91, 92], [93, 94, 95], [1, 11, 93, 96, 97, 98, 99, 100, 101, 102]] Tryz.f81 = some F } := ⟨F_gregory_Count, by kernel_rfl⟩
theorem c81 : Cert 81 T81.1 := cert_of T81.2 Tryz.func81
-- suffrage/meek.Count
def R_meek_Count_0 : AC := .ops false [⟨some 3, .box (.t 0), none, []⟩,
  ⟨some 6, .alloc [.lst 0 [] (some 0), .lst 0 [] (some 0), .lst 0 [] (some 0)], none, []⟩,
  ⟨some 7, .mov (.c (.int .i64 0)), none, []⟩] [0, 7]
def R_meek_Count_1 : AC := .ops false [⟨some 13, .load 3 false (.t 3), none, []⟩,
  ⟨some 14, .mov (.t 1), none, []⟩,
  ⟨some 15, .fa (.t 3) 0, none, []⟩,
  ⟨some 16, .load 1 true (.t 15), none, []⟩,
  ⟨some 17, .mov (.t 2), none, []⟩,
  ⟨some 18, .call (.fn 128) [.t 13, .c (.int .u8 1), .t 14, .t 16, .t 17], none, []⟩,
  ⟨some 8, .mov (.t 18), none, []⟩] [13, 14, 15, 16, 17, 18]
def R_meek_Count_2 : AC := .ops false [⟨some 19, .mov (.t 8), none, []⟩,
  ⟨some 20, .bin .neq (.t 19) (.c (.int .i64 0)), none, []⟩] [19]
def R_meek_Count_3 : AC := .ops false [⟨some 21, .build [.lst 0 [] (some 0), .lst 0 [] (some 0), .lst 0 [] (some 0)] [], none, []⟩,
  ⟨some 22, .mov (.t 8), none, []⟩,
  ⟨none, .store 3 (.t 6) (.t 21), none, []⟩,
  ⟨some 7, .mov (.t 22), none, []⟩] [1, 2, 3, 8, 20, 21, 22]
def R_meek_Count_4 : AC := .ops true [⟨some 23, .mov (.t 2), none, []⟩,
  ⟨some 24, .call (.fn 131) [.t 23], none, [0]⟩,
  ⟨some 25, .load 3 false (.t 3), none, []⟩,
  ⟨some 26, .mov (.t 1), none, []⟩,
  ⟨some 27, .fa (.t 3) 0, none, []⟩,
  ⟨some 28, .load 1 true (.t 27), none, [4]⟩,
  ⟨some 29, .call (.fn 134) [.t 28], none, [5, 1]⟩,
  ⟨some 30, .build [.nilp, .int .i64 0, .int .u8 0, .lst 0 [] (some 0), .int .i64 0, .int .i64 0, .lst 0 [] (some 0), .lst 0 [] (some 0), .int .i64 0, .lst 0 [] (some 0), .int .i64 0, .int .i64 0, .lst 0 [] (some 0), .bool false, .lst 0 [] (some 0), .lst 0 [] (some 0), .lst 0 [] (some 0), .lst 0 [] (some 0)] [(0, 1, .t 24), (1, 3, .t 25), (4, 1, .t 26), (7, 1, .t 29)], none, [1, 2, 3, 6]⟩,
  ⟨some 31, .box (.t 30), none, [7]⟩,
  ⟨some 9, .mov (.t 31), none, [8, 6, 0, 1, 2, 3, 4, 5, 6, 7, 8]⟩] [2, 8, 20, 23, 24, 25, 26, 27, 28, 29, 30, 31]
def R_meek_Count_5 : AC := .ops false [⟨some 33, .mov (.t 9), none, []⟩,
  ⟨some 34, .load 3 false (.t 3), none, []⟩,
  ⟨some 35, .call (.fn 144) [.t 34], none, []⟩,
  ⟨some 32, .mov (.t 35), none, []⟩,
  ⟨some 36, .ext (.t 32) 0, none, []⟩,
  ⟨some 37, .ext (.t 32) 1, none, []⟩,
  ⟨some 38, .nilchk (.t 33), none, []⟩,
  ⟨some 39, .fa (.t 38) 5, none, []⟩,
  ⟨none, .store 1 (.t 39) (.t 36), none, []⟩] [32, 33, 34, 35, 36, 37, 38, 39]
def R_meek_Count_6 : AC := .ops false [⟨some 40, .fa (.t 3) 0, none, []⟩,
  ⟨some 41, .load 1 true (.t 40), none, []⟩,
  ⟨some 42, .mov (.c (.int .i64 0)), none, []⟩] [3, 40]
def R_meek_Count_7 : AC := .ops false [⟨some 43, .bin .lss (.t 42) (.t 41), none, []⟩] []
def R_meek_Count_8 : AC := .ops false [⟨some 44, .mov (.t 9), none, []⟩,
  ⟨some 45, .mov (.t 9), none, []⟩,
  ⟨some 46, .nilchk (.t 45), none, []⟩,
  ⟨some 47, .fa (.t 46) 6, none, []⟩,
  ⟨some 48, .load 1 true (.t 47), none, []⟩,
  ⟨some 49, .bslice 1 [.int .i64 0] 1 [(0, .c (.int .i64 1000000000))], none, []⟩,
  ⟨some 50, .append 1 8 (.t 48) (.t 49), none, []⟩,
  ⟨some 51, .nilchk (.t 44), none, []⟩,
  ⟨some 52, .fa (.t 51) 6, none, []⟩,
  ⟨none, .store 1 (.t 52) (.t 50), none, []⟩] [43, 44, 45, 46, 47, 48, 49, 50, 51, 52]
def R_meek_Count_9 : AC := .ops false [⟨some 53, .bin .add (.t 42) (.c (.int .i64 1)), none, []⟩,
  ⟨some 42, .mov (.t 53), none, []⟩] [53]
def L_meek_Count_1 : AC := (.seq R_meek_Count_7 (.seq (.cond (.t 43) .skip (.exit 0)) (.seq (.block 1 R_meek_Count_8) R_meek_Count_9)))
def R_meek_Count_10 : AC := .ops false [⟨some 54, .build [.nilf, .nilf, .nilf, .nilf] [(0, 1, .f 146), (1, 1, .f 147), (2, 1, .f 148), (3, 1, .f 149)], none, []⟩,
  ⟨some 10, .alloc [.nilf, .nilf, .nilf, .nilf], none, []⟩,
  ⟨none, .store 4 (.t 10) (.t 54), none, []⟩] [41, 42, 43, 54]
def R_meek_Count_11 : AC := .ops false [⟨some 55, .mov (.t 9), none, []⟩,
  ⟨some 56, .nilchk (.t 55), none, []⟩,
  ⟨some 57, .fa (.t 56) 0, none, []⟩,
  ⟨some 58, .load 1 true (.t 57), none, []⟩,
  ⟨some 59, .nilchk (.t 58), none, []⟩,
  ⟨some 60, .fa (.t 59) 0, none, []⟩,
  ⟨some 61, .fa (.t 60) 0, none, []⟩,
  ⟨some 62, .load 1 true (.t 61), none, []⟩,
  ⟨some 63, .len (.t 62), none, []⟩,
  ⟨some 64, .mov (.t 1), none, []⟩,
  ⟨some 65, .bin .lss (.t 63) (.t 64), none, []⟩] [55, 56, 57, 58, 59, 60, 61, 62, 63, 64]
def R_meek_Count_12 : AC := .ops false [⟨some 66, .mov (.t 9), none, []⟩,
  ⟨some 67, .mov (.t 9), none, []⟩,
  ⟨some 68, .build [.lst 0 [] (some 0), .bool false, .lst 0 [] (some 0), .lst 0 [] (some 0), .lst 0 [] (some 0), .lst 0 [] (some 0)] [], none, []⟩,
  ⟨some 69, .nilchk (.t 66), none, []⟩,
  ⟨some 70, .fa (.t 69) 8, none, []⟩,
  ⟨none, .store 1 (.t 70) (.c (.int .i64 0)), none, []⟩,
  ⟨some 71, .nilchk (.t 67), none, []⟩,
  ⟨some 72, .fa (.t 71) 12, none, []⟩,
  ⟨none, .store 6 (.t 72) (.t 68), none, []⟩] [65, 66, 67, 68, 69, 70, 71, 72]
def R_meek_Count_13 : AC := .ops false [⟨some 73, .mov (.t 9), none, []⟩,
  ⟨some 74, .call (.fn 150) [.t 73], none, []⟩] [73, 74, 75, 76, 77]
def R_meek_Count_14 : AC := .ops false [⟨some 75, .load 4 false (.t 10), none, []⟩,
  ⟨some 76, .mov (.c (.int .i64 0)), none, []⟩] []
def R_meek_Count_15 : AC := .ops false [⟨some 77, .bin .lss (.t 76) (.c (.int .i64 4)), none, []⟩] []
def R_meek_Count_16 : AC := .ops false [⟨some 78, .idx 1 4 true (.t 75) (.t 76), none, []⟩,
  ⟨some 12, .mov (.t 78), none, []⟩] [77, 78]
def R_meek_Count_17 : AC := .ops false [⟨some 79, .mov (.t 12), none, []⟩,
  ⟨some 80, .mov (.t 9), none, []⟩,
  ⟨some 81, .call (.dyn (.t 79)) [.t 80], none, []⟩] [12, 79, 80]
def R_meek_Count_18 : AC := .ops false [⟨some 82, .bin .add (.t 76) (.c (.int .i64 1)), none, []⟩,
  ⟨some 76, .mov (.t 82), none, []⟩] [81, 82]
def L_meek_Count_2 : AC := (.seq R_meek_Count_15 (.seq (.cond (.t 77) .skip (.exit 6)) (.seq (.block 7 (.seq R_meek_Count_16 (.seq R_meek_Count_17 (.cond (.t 81) (.exit 4) .skip)))) R_meek_Count_18)))
def L_meek_Count_3 : AC := (.block 5 (.seq R_meek_Count_13 (.seq R_meek_Count_14 (.block 6 (.loop L_meek_Count_2)))))
def R_meek_Count_19 : AC := .ops true [⟨some 83, .mov (.t 9), none, []⟩,
  ⟨some 84, .mov (.t 9), none, []⟩,
  ⟨some 85, .mov (.t 9), none, []⟩,
  ⟨some 86, .nilchk (.t 85), none, [2]⟩,
  ⟨some 87, .fa (.t 86) 9, none, [3]⟩,
  ⟨some 88, .load 1 true (.t 87), none, [4]⟩,
  ⟨some 89, .call (.fn 151) [.t 88], none, [5]⟩,
  ⟨some 90, .mov (.t 9), none, []⟩,
  ⟨some 91, .nilchk (.t 90), none, [7]⟩,
  ⟨some 92, .fa (.t 91) 10, none, [8]⟩,
  ⟨some 93, .load 1 true (.t 92), none, [9]⟩,
  ⟨some 94, .bslice 1 [.int .i64 0] 1 [(0, .t 93)], none, [10]⟩,
  ⟨some 95, .call (.fn 151) [.t 94], none, [11, 6]⟩,
  ⟨some 96, .ia 3 (.t 95) (.c (.int .i64 0)), none, [12]⟩,
  ⟨some 97, .load 3 false (.t 96), none, [13]⟩,
  ⟨some 98, .nilchk (.t 83), none, [0, 0, 2, 3, 4, 5, 6, 10, 12, 14]⟩,
  ⟨some 99, .fa (.t 98) 12, none, [15, 0, 2, 3, 4, 5, 6, 10, 12, 14]⟩,
  ⟨some 100, .fa (.t 99) 0, none, [16, 0, 2, 3, 4, 5, 6, 10, 12, 14]⟩,
  ⟨none, .store 1 (.t 100) (.t 89), none, [17, 6, 12, 0, 2, 3, 4, 5, 6, 10, 12, 14]⟩,
  ⟨some 101, .nilchk (.t 84), none, [1, 0, 1, 2, 3, 4, 5, 6, 7, 8, 9, 10, 11, 12, 13, 14, 15, 16, 17, 18]⟩,
  ⟨some 102, .fa (.t 101) 12, none, [19, 0, 1, 2, 3, 4, 5, 6, 7, 8, 9, 10, 11, 12, 13, 14, 15, 16, 17, 18]⟩,
  ⟨some 103, .fa (.t 102) 1, none, [20, 0, 1, 2, 3, 4, 5, 6, 7, 8, 9, 10, 11, 12, 13, 14, 15, 16, 17, 18]⟩,
  ⟨none, .store 3 (.t 103) (.t 97), none, [21, 14, 18, 0, 1, 2, 3, 4, 5, 6, 7, 8, 9, 10, 11, 12, 13, 14, 15, 16, 17, 18]⟩] [75, 76, 81, 83, 84, 85, 86, 87, 88, 89, 90, 91, 92, 93, 94, 95, 96, 97, 98, 99, 100, 101, 102, 103]
def R_meek_Count_20 : AC := .ops true [⟨some 104, .mov (.t 9), none, []⟩,
  ⟨some 105, .nilchk (.t 104), none, [0]⟩,
  ⟨some 106, .fa (.t 105) 0, none, [1]⟩,
  ⟨some 107, .load 1 true (.t 106), none, [2]⟩,
  ⟨some 108, .mov (.t 9), none, []⟩,
  ⟨some 109, .nilchk (.t 108), none, [4]⟩,
  ⟨some 110, .fa (.t 109) 0, none, [5]⟩,
  ⟨some 111, .load 1 true (.t 110), none, [6]⟩,
  ⟨some 112, .nilchk (.t 111), none, [7]⟩,
  ⟨some 113, .fa (.t 112) 0, none, [8]⟩,
  ⟨some 114, .fa (.t 113) 1, none, [9]⟩,
  ⟨some 115, .load 1 true (.t 114), none, [10]⟩,
  ⟨some 116, .mov (.t 9), none, []⟩,
  ⟨some 117, .nilchk (.t 116), none, [12]⟩,
  ⟨some 118, .fa (.t 117) 12, none, [13]⟩,
  ⟨some 119, .load 6 false (.t 118), none, [14]⟩,
  ⟨some 120, .bslice 6 [.lst 0 [] (some 0), .bool false, .lst 0 [] (some 0), .lst 0 [] (some 0), .lst 0 [] (some 0), .lst 0 [] (some 0)] 1 [(0, .t 119)], none, [15]⟩,
  ⟨some 121, .append 6 128 (.t 115) (.t 120), none, [11, 16]⟩,
  ⟨some 122, .nilchk (.t 107), none, [3, 0, 1, 2, 3, 4, 5, 6, 7, 8, 9, 10, 11, 12, 13, 14, 15, 16, 17]⟩,
  ⟨some 123, .fa (.t 122) 0, none, [18, 0, 1, 2, 3, 4, 5, 6, 7, 8, 9, 10, 11, 12, 13, 14, 15, 16, 17]⟩,
  ⟨some 124, .fa (.t 123) 1, none, [19, 0, 1, 2, 3, 4, 5, 6, 7, 8, 9, 10, 11, 12, 13, 14, 15, 16, 17]⟩,
  ⟨none, .store 1 (.t 124) (.t 121), none, [20, 17, 17, 0, 1, 2, 3, 4, 5, 6, 7, 8, 9, 10, 11, 12, 13, 14, 15, 16, 17]⟩] [104, 105, 106, 107, 108, 109, 110, 111, 112, 113, 114, 115, 116, 117, 118, 119, 120, 121, 122, 123, 124]
def L_meek_Count_4 : AC := (.seq (.seq R_meek_Count_11 (.cond (.t 65) .skip (.exit 2))) (.block 3 (.seq R_meek_Count_12 (.seq .skip (.seq (.block 4 (.loop L_meek_Count_3)) (.seq R_meek_Count_19 R_meek_Count_20))))))
def R_meek_Count_21 : AC := .ops false [⟨some 125, .mov (.t 9), none, []⟩,
  ⟨some 126, .nilchk (.t 125), none, []⟩,
  ⟨some 127, .fa (.t 126) 0, none, []⟩,
  ⟨some 128, .load 1 true (.t 127), none, []⟩,
  ⟨some 129, .nilchk (.t 128), none, []⟩,
  ⟨some 130, .fa (.t 129) 0, none, []⟩,
  ⟨some 131, .load 3 false (.t 130), none, []⟩,
  ⟨none, .store 3 (.t 6) (.t 131), none, []⟩,
  ⟨some 7, .mov (.c (.int .i64 0)), none, []⟩] [1, 9, 10, 65, 125, 126, 127, 128, 129, 130, 131]
def F_meek_Count : AFunc := { ntmps := 132, nargs := 3, kills := [[0, 7], [13, 14, 15, 16, 17, 18], [19], [1, 2, 3, 8, 20, 21, 22], [2, 8, 20, 23, 24, 25, 26, 27, 28, 29, 30, 31], [32, 33, 34, 35, 36, 37, 38, 39], [3, 40], [], [43, 44, 45, 46, 47, 48, 49, 50, 51, 52], [53], [41, 42, 43, 54], [55, 56, 57, 58, 59, 60, 61, 62, 63, 64], [65, 66, 67, 68, 69, 70, 71, 72], [73, 74, 75, 76, 77], [], [], [77, 78], [12, 79, 80], [81, 82], [75, 76, 81, 83, 84, 85, 86, 87, 88, 89, 90, 91, 92, 93, 94, 95, 96, 97, 98, 99, 100, 101, 102, 103], [104, 105, 106, 107, 108, 109, 110, 111, 112, 113, 114, 115, 116, 117, 118, 119, 120, 121, 122, 123, 124], [1, 9, 10, 65, 125, 126, 127, 128, 129, 130, 131]], results := [.cell 6 3 false, .t 7], body := (.seq R_meek_Count_0 (.seq (.seq R_meek_Count_1 (.seq R_meek_Count_2 (.cond (.t 20) (.seq R_meek_Count_3 .ret) .skip))) (.seq R_meek_Count_4 (.seq R_meek_Count_5 (.seq (.seq R_meek_Count_6 (.block 0 (.loop L_meek_Count_1))) (.seq R_meek_Count_10 (.seq (.block 2 (.loop L_meek_Count_4)) (.seq R_meek_Count_21 .ret)))))))) }
noncomputable def T82 : { F : AFunc // CT.func [[0, 7], [13, 14, 15, 16, 17, 18], [19], [1, 2, 3, 8, 20, 21, 22], [2, 8, 20, 23, 24, 25, 26, 27, 28, 29, 30, 31], [32, 33, 34, 35, 36, 37, 38, 39], [3, 40], [], [43, 44, 45, 46, 47, 48, 49, 50, 51, 52], [53], [41, 42, 43, 54], [55, 56, 57, 58, 59, 60, 61, 62, 63, 64], [65, 66, 67, 68, 69, 70, 71, 72], [73, 74, 75, 76, 77], [], [], [77, 78], [12, 79, 80], [81, 82], [75, 76, 81, 83, 84, 85, 86, 87, 88, 89, 90, 91, 92, 93, 94, 95, 96, 97, 98, 99, 100, 101, 102, 103], [104, 105, 106, 107, 108, 109, 110, 111, 112, 113, 114, 115, 116, 117, 118, 119, 120, 121, 122, 123, 124], [1, 9, 10, 65, 125, 126, 127, 128, 129, 130, 131]] Tryz.f82 = some F } := ⟨F_meek_Count, by kernel_rfl⟩
theorem c82 : Cert 82 T82.1 := cert_of T82.2 Tryz.func82
end Go.Proofs.YtmkaekblmbjhpaaGreat
