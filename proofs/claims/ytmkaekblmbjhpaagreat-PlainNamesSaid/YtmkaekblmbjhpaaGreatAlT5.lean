/- The functions in the abstract language, worked out by Lean. -/
import Derived.Test.YtmkaekblmbjhpaaGreatAlX
set_option linter.unusedVariables false
set_option maxHeartbeats 1000000
set_option maxRecDepth 100000
namespace Go.Proofs.YtmkaekblmbjhpaaGreat
-- suffrage/phragmen.Count
def R_phragmen_Count_0 : AC := .ops false [⟨some 3, .box (.t 0), none, []⟩,
  ⟨some 6, .alloc [.lst 0 [] (some 0), .lst 0 [] (some 0), .lst 0 [] (some 0)], none, []⟩,
  ⟨some 7, .mov (.c (.int .i64 0)), none, []⟩] [0, 7]
def R_phragmen_Count_1 : AC := .ops false [⟨some 17, .load 3 false (.t 3), none, []⟩,
  ⟨some 18, .mov (.t 1), none, []⟩,
  ⟨some 19, .fa (.t 3) 0, none, []⟩,
  ⟨some 20, .load 1 true (.t 19), none, []⟩,
  ⟨some 21, .mov (.t 2), none, []⟩,
  ⟨some 22, .call (.fn 128) [.t 17, .c (.int .u8 2), .t 18, .t 20, .t 21], none, []⟩,
  ⟨some 8, .mov (.t 22), none, []⟩] [17, 18, 19, 20, 21, 22]
def R_phragmen_Count_2 : AC := .ops false [⟨some 23, .mov (.t 8), none, []⟩,
  ⟨some 24, .bin .neq (.t 23) (.c (.int .i64 0)), none, []⟩] [23]
def R_phragmen_Count_3 : AC := .ops false [⟨some 25, .build [.lst 0 [] (some 0), .lst 0 [] (some 0), .lst 0 [] (some 0)] [], none, []⟩,
  ⟨some 26, .mov (.t 8), none, []⟩,
  ⟨none, .store 3 (.t 6) (.t 25), none, []⟩,
  ⟨some 7, .mov (.t 26), none, []⟩] [1, 2, 3, 8, 24, 25, 26]
def R_phragmen_Count_4 : AC := .ops true [⟨some 27, .mov (.t 2), none, []⟩,
  ⟨some 28, .call (.fn 131) [.t 27], none, [0]⟩,
  ⟨some 29, .fa (.t 3) 0, none, []⟩,
  ⟨some 30, .load 1 true (.t 29), none, [2]⟩,
  ⟨some 31, .call (.fn 134) [.t 30], none, [3, 1]⟩,
  ⟨some 32, .fa (.t 3) 2, none, []⟩,
  ⟨some 33, .load 1 true (.t 32), none, [5]⟩,
  ⟨some 34, .len (.t 33), none, [6]⟩,
  ⟨some 35, .call (.fn 152) [.t 34], none, [7, 4]⟩,
  ⟨some 9, .alloc [.nilp], none, []⟩,
  ⟨some 10, .alloc [.lst 0 [] (some 0)], none, []⟩,
  ⟨some 11, .alloc [.lst 0 [] (some 0)], none, []⟩,
  ⟨none, .store 1 (.t 9) (.t 28), none, [9, 1, 8, 0, 1, 9, 10, 11]⟩,
  ⟨none, .store 1 (.t 10) (.t 31), none, [10, 4, 12, 0, 1, 2, 3, 4, 9, 10, 11, 12]⟩,
  ⟨none, .store 1 (.t 11) (.t 35), none, [11, 8, 13, 0, 1, 2, 3, 4, 5, 6, 7, 8, 9, 10, 11, 12, 13]⟩] [2, 8, 24, 27, 28, 29, 30, 31, 32, 33, 34, 35]
def R_phragmen_Count_5 : AC := .ops false [⟨some 37, .load 3 false (.t 3), none, []⟩,
  ⟨some 38, .call (.fn 153) [.t 37], none, []⟩,
  ⟨some 36, .mov (.t 38), none, []⟩,
  ⟨some 39, .ext (.t 36) 0, none, []⟩,
  ⟨some 40, .ext (.t 36) 1, none, []⟩,
  ⟨some 12, .alloc [.int .i64 0], none, []⟩,
  ⟨none, .store 1 (.t 12) (.t 39), none, []⟩,
  ⟨some 13, .mov (.t 40), none, []⟩] [13, 36, 37, 38, 39, 40]
def R_phragmen_Count_6 : AC := .ops false [⟨some 42, .load 3 false (.t 3), none, []⟩,
  ⟨some 43, .call (.fn 144) [.t 42], none, []⟩,
  ⟨some 41, .mov (.t 43), none, []⟩,
  ⟨some 44, .ext (.t 41) 0, none, []⟩,
  ⟨some 45, .ext (.t 41) 1, none, []⟩,
  ⟨some 14, .alloc [.int .i64 0], none, []⟩,
  ⟨none, .store 1 (.t 14) (.t 44), none, []⟩,
  ⟨some 15, .mov (.t 45), none, []⟩] [15, 41, 42, 43, 44, 45]
def R_phragmen_Count_7 : AC := .ops false [⟨some 46, .mkfn 154 [] [.t 3, .t 12, .t 14, .t 10, .t 11, .t 9], none, []⟩,
  ⟨some 16, .mov (.t 46), none, []⟩] [3, 10, 11, 12, 14, 46]
def R_phragmen_Count_8 : AC := .ops false [⟨some 47, .mov (.t 1), none, []⟩,
  ⟨some 48, .mov (.c (.int .i64 0)), none, []⟩] [1]
def R_phragmen_Count_9 : AC := .ops false [⟨some 49, .bin .lss (.t 48) (.t 47), none, []⟩] []
def R_phragmen_Count_10 : AC := .ops true [⟨some 50, .load 1 true (.t 9), none, []⟩,
  ⟨some 51, .load 1 true (.t 9), none, []⟩,
  ⟨some 52, .nilchk (.t 51), none, [1]⟩,
  ⟨some 53, .fa (.t 52) 0, none, [2]⟩,
  ⟨some 54, .fa (.t 53) 1, none, [3]⟩,
  ⟨some 55, .load 1 true (.t 54), none, [4]⟩,
  ⟨some 56, .mov (.t 16), none, []⟩,
  ⟨some 57, .call (.dyn (.t 56)) [], none, [6]⟩,
  ⟨some 58, .bslice 6 [.lst 0 [] (some 0), .bool false, .lst 0 [] (some 0), .lst 0 [] (some 0), .lst 0 [] (some 0), .lst 0 [] (some 0)] 1 [(0, .t 57)], none, [7]⟩,
  ⟨some 59, .append 6 128 (.t 55) (.t 58), none, [5, 8, 7]⟩,
  ⟨some 60, .nilchk (.t 50), none, [0, 0, 1, 2, 3, 4, 5, 6, 7, 8, 9]⟩,
  ⟨some 61, .fa (.t 60) 0, none, [10, 0, 1, 2, 3, 4, 5, 6, 7, 8, 9]⟩,
  ⟨some 62, .fa (.t 61) 1, none, [11, 0, 1, 2, 3, 4, 5, 6, 7, 8, 9]⟩,
  ⟨none, .store 1 (.t 62) (.t 59), none, [12, 9, 9, 0, 1, 2, 3, 4, 5, 6, 7, 8, 9]⟩] [49, 50, 51, 52, 53, 54, 55, 56, 57, 58, 59, 60, 61, 62]
def R_phragmen_Count_11 : AC := .ops false [⟨some 63, .bin .add (.t 48) (.c (.int .i64 1)), none, []⟩,
  ⟨some 48, .mov (.t 63), none, []⟩] [63]
def L_phragmen_Count_1 : AC := (.seq R_phragmen_Count_9 (.seq (.cond (.t 49) .skip (.exit 0)) (.seq (.block 1 R_phragmen_Count_10) R_phragmen_Count_11)))
def R_phragmen_Count_12 : AC := .ops false [⟨some 64, .load 1 true (.t 9), none, []⟩,
  ⟨some 65, .nilchk (.t 64), none, []⟩,
  ⟨some 66, .fa (.t 65) 0, none, []⟩,
  ⟨some 67, .load 3 false (.t 66), none, []⟩,
  ⟨none, .store 3 (.t 6) (.t 67), none, []⟩,
  ⟨some 7, .mov (.c (.int .i64 0)), none, []⟩] [9, 16, 47, 48, 49, 64, 65, 66, 67]
def F_phragmen_Count : AFunc := { ntmps := 68, nargs := 3, kills := [[0, 7], [17, 18, 19, 20, 21, 22], [23], [1, 2, 3, 8, 24, 25, 26], [2, 8, 24, 27, 28, 29, 30, 31, 32, 33, 34, 35], [13, 36, 37, 38, 39, 40], [15, 41, 42, 43, 44, 45], [3, 10, 11, 12, 14, 46], [1], [], [49, 50, 51, 52, 53, 54, 55, 56, 57, 58, 59, 60, 61, 62], [63], [9, 16, 47, 48, 49, 64, 65, 66, 67]], results := [.cell 6 3 false, .t 7], body := (.seq R_phragmen_Count_0 (.seq (.seq R_phragmen_Count_1 (.seq R_phragmen_Count_2 (.cond (.t 24) (.seq R_phragmen_Count_3 .ret) .skip))) (.seq R_phragmen_Count_4 (.seq R_phragmen_Count_5 (.seq R_phragmen_Count_6 (.seq R_phragmen_Count_7 (.seq (.seq R_phragmen_Count_8 (.block 0 (.loop L_phragmen_Count_1))) (.seq R_phragmen_Count_12 .ret)))))))) }
noncomputable def T83 : { F : AFunc // CT.func [[0, 7], [17, 18, 19, 20, 21, 22], [23], [1, 2, 3, 8, 24, 25, 26], [2, 8, 24, 27, 28, 29, 30, 31, 32, 33, 34, 35], [13, 36, 37, 38, 39, 40], [15, 41, 42, 43, 44, 45], [3, 10, 11, 12, 14, 46], [1], [], [49, 50, 51, 52, 53, 54, 55, 56, 57, 58, 59, 60, 61, 62], [63], [9, 16, 47, 48, 49, 64, 65, 66, 67]] Tryz.f83 = some F } := ⟨F_phragmen_Count, by kernel_rfl⟩
theorem c83 : Cert 83 T83.1 := cert_of T83.2 Tryz.func83
-- suffrage/lists.DHondt
noncomputable def T84 : { F : AFunc // CT.func [[0, 7], [1, 2, 3, 8, 9, 10, 11, 12, 13, 14, 15]] Tryz.f84 = some F } := by
  refine ⟨?F, ?h⟩
  case h =>
    conv => lhs; cbv
theorem c84 : Cert 84 T84.1 := cert_of T84.2 Tryz.func84
-- suffrage/lists.Sainte
noncomputable def T85 : { F : AFunc // CT.func [[0, 7], [1, 2, 3, 8, 9, 10, 11, 12, 13, 14, 15]] Tryz.f85 = some F } := by
  refine ⟨?F, ?h⟩
  case h =>
    conv => lhs; cbv
theorem c85 : Cert 85 T85.1 := cert_of T85.2 Tryz.func85
-- suffrage/lists.Hare
noncomputable def T86 : { F : AFunc // CT.func [[0, 7], [1, 2, 3, 8, 9, 10, 11, 12, 13]] Tryz.f86 = some F } := by
  refine ⟨?F, ?h⟩
  case h =>
    conv => lhs; cbv
theorem c86 : Cert 86 T86.1 := cert_of T86.2 Tryz.func86
-- suffrage/nat.both
noncomputable def T87 : { F : AFunc // CT.func [[4], [0, 6, 7], [8], [1, 5, 9, 10], [1, 5, 9, 11, 12]] Tryz.f87 = some F } := by
  refine ⟨?F, ?h⟩
  case h =>
    conv => lhs; cbv
theorem c87 : Cert 87 T87.1 := cert_of T87.2 Tryz.func87
-- slices.Clone[[]uint32,uint32]
noncomputable def T88 : { F : AFunc // CT.func [[2], [3], [0, 4], [0, 4, 5, 6, 7]] Tryz.f88 = some F } := by
  refine ⟨?F, ?h⟩
  case h =>
    conv => lhs; cbv
theorem c88 : Cert 88 T88.1 := cert_of T88.2 Tryz.func88
-- suffrage/nat.divide
noncomputable def T89 : { F : AFunc // CT.func [[4, 5], [9, 10, 11, 12], [0, 1, 8, 13, 14], [8, 16, 17, 18], [0, 1, 15, 19, 20, 21, 22, 23, 24, 25, 26], [6, 7, 27, 28, 29, 30], [0, 1, 15, 31, 32, 33, 34, 35]] Tryz.f89 = some F } := by
  refine ⟨?F, ?h⟩
  case h =>
    conv => lhs; cbv
theorem c89 : Cert 89 T89.1 := cert_of T89.2 Tryz.func89
-- suffrage/ratio.Check
noncomputable def T90 : { F : AFunc // CT.func [[0, 2], [5, 6, 7, 8, 9, 10, 11, 12, 13, 14, 15, 16, 17, 18, 19, 20, 21, 22, 23, 24, 25, 26, 27, 28, 29], [1, 30], [1, 4, 30, 31, 32, 33, 34, 35, 36, 37, 38], [3, 39, 40, 41], [42], [42]] Tryz.f90 = some F } := by
  refine ⟨?F, ?h⟩
  case h =>
    conv => lhs; cbv
theorem c90 : Cert 90 T90.1 := cert_of T90.2 Tryz.func90
-- suffrage/ratio.side
noncomputable def T91 : { F : AFunc // CT.func [[0, 2], [4, 5, 6, 7], [1, 3], [1, 3, 9, 10], [8], [8]] Tryz.f91 = some F } := by
  refine ⟨?F, ?h⟩
  case h =>
    conv => lhs; cbv
theorem c91 : Cert 91 T91.1 := cert_of T91.2 Tryz.func91
-- (suffrage/ratio.pair).crossed
noncomputable def T92 : { F : AFunc // CT.func [[0, 2, 3, 4], [5, 6, 7, 8, 9, 10, 11, 12, 13, 14], [15], [1, 16, 17], [1, 16, 18, 19, 20, 21, 22, 23, 24, 25, 26, 27], [28, 29, 30]] Tryz.f92 = some F } := by
  refine ⟨?F, ?h⟩
  case h =>
    conv => lhs; cbv
theorem c92 : Cert 92 T92.1 := cert_of T92.2 Tryz.func92
-- suffrage/nat.Cmp
noncomputable def T93 : { F : AFunc // CT.func [[4, 5], [7, 8, 9], [10], [0, 1, 6, 11, 12], [0, 1, 6, 11, 13, 14, 15]] Tryz.f93 = some F } := by
  refine ⟨?F, ?h⟩
  case h =>
    conv => lhs; cbv
theorem c93 : Cert 93 T93.1 := cert_of T93.2 Tryz.func93
-- slices.IndexFunc[[]int,int]
noncomputable def T94 : { F : AFunc // CT.func [[4], [6], [], [9, 10], [11, 12, 13, 14, 15], [0, 1, 5, 7, 8, 16, 17], [5, 16, 18], [0, 1, 7, 8, 9]] Tryz.f94 = some F } := by
  refine ⟨?F, ?h⟩
  case h =>
    conv => lhs; cbv
theorem c94 : Cert 94 T94.1 := cert_of T94.2 Tryz.func94
-- slices.Clone[[]string,string]
noncomputable def T95 : { F : AFunc // CT.func [[2], [3], [0, 4], [0, 4, 5, 6, 7]] Tryz.f95 = some F } := by
  refine ⟨?F, ?h⟩
  case h =>
    conv => lhs; cbv
theorem c95 : Cert 95 T95.1 := cert_of T95.2 Tryz.func95
-- slices.Clone[[]suffrage/api.Batch,suffrage/api.Batch]
noncomputable def T96 : { F : AFunc // CT.func [[2], [3], [0, 4], [0, 4, 5, 6, 7]] Tryz.f96 = some F } := by
  refine ⟨?F, ?h⟩
  case h =>
    conv => lhs; cbv
theorem c96 : Cert 96 T96.1 := cert_of T96.2 Tryz.func96
-- slices.Clone[[]suffrage/api.Ballot,suffrage/api.Ballot]
noncomputable def T97 : { F : AFunc // CT.func [[2], [3], [0, 4], [0, 4, 5, 6, 7]] Tryz.f97 = some F } := by
  refine ⟨?F, ?h⟩
  case h =>
    conv => lhs; cbv
theorem c97 : Cert 97 T97.1 := cert_of T97.2 Tryz.func97
-- suffrage/record.copied
noncomputable def T98 : { F : AFunc // CT.func [[0], [3, 4, 5, 6], [1, 7]] Tryz.f98 = some F } := by
  refine ⟨?F, ?h⟩
  case h =>
    conv => lhs; cbv
theorem c98 : Cert 98 T98.1 := cert_of T98.2 Tryz.func98
end Go.Proofs.YtmkaekblmbjhpaaGreat
