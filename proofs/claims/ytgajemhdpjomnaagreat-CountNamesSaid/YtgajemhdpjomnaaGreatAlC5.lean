/- Functions of the table are the program's, printed by a program. -/
import Derived.Test.YtgajemhdpjomnaaGreatAlX
set_option linter.unusedVariables false
set_option maxRecDepth 100000
namespace Go.Proofs.YtgajemhdpjomnaaGreat
theorem c_240 : Cert 240 F_slices_siftDownOrdered := ⟨Tryz.f240, Tryz.func240, by kernel_rfl⟩
theorem c_241 : Cert 241 F_slices_nextPowerOfTwo := ⟨Tryz.f241, Tryz.func241, by kernel_rfl⟩
theorem c_242 : Cert 242 F_slices_xorshift_Next := ⟨Tryz.f242, Tryz.func242, by kernel_rfl⟩
theorem c_243 : Cert 243 F_slices_medianAdjacentOrdered := ⟨Tryz.f243, Tryz.func243, by kernel_rfl⟩
theorem c_244 : Cert 244 F_slices_medianOrdered := ⟨Tryz.f244, Tryz.func244, by kernel_rfl⟩
theorem c_245 : Cert 245 F_nat_both := ⟨Tryz.f245, Tryz.func245, by kernel_rfl⟩
theorem c_246 : Cert 246 F_nat_divide := ⟨Tryz.f246, Tryz.func246, by kernel_rfl⟩
theorem c_247 : Cert 247 F_ratio_Check := ⟨Tryz.f247, Tryz.func247, by kernel_rfl⟩
theorem c_248 : Cert 248 F_ratio_side := ⟨Tryz.f248, Tryz.func248, by kernel_rfl⟩
theorem c_249 : Cert 249 F_ratio_pair_crossed := ⟨Tryz.f249, Tryz.func249, by kernel_rfl⟩
theorem c_250 : Cert 250 F_nat_Cmp := ⟨Tryz.f250, Tryz.func250, by kernel_rfl⟩
theorem c_263 : Cert 263 F_choose_Count_Seats := ⟨Tryz.f263, Tryz.func263, by kernel_rfl⟩
theorem c_264 : Cert 264 F_slices_Index_3 := ⟨Tryz.f264, Tryz.func264, by kernel_rfl⟩
theorem c_265 : Cert 265 F_slices_MinFunc := ⟨Tryz.f265, Tryz.func265, by kernel_rfl⟩
theorem c_266 : Cert 266 F_choose_Count_first_1 := ⟨Tryz.f266, Tryz.func266, by kernel_rfl⟩
theorem c_267 : Cert 267 F_ranked_check := ⟨Tryz.f267, Tryz.func267, by kernel_rfl⟩
theorem c_268 : Cert 268 F_slices_SortStableFunc := ⟨Tryz.f268, Tryz.func268, by kernel_rfl⟩
theorem c_269 : Cert 269 F_ranked_Order_1 := ⟨Tryz.f269, Tryz.func269, by kernel_rfl⟩
theorem c_270 : Cert 270 F_cmp_Or := ⟨Tryz.f270, Tryz.func270, by kernel_rfl⟩
theorem c_271 : Cert 271 F_ranked_Leads_1 := ⟨Tryz.f271, Tryz.func271, by kernel_rfl⟩
theorem c_272 : Cert 272 F_slices_Reverse := ⟨Tryz.f272, Tryz.func272, by kernel_rfl⟩
theorem c_273 : Cert 273 F_choose_Least_1 := ⟨Tryz.f273, Tryz.func273, by kernel_rfl⟩
theorem c_274 : Cert 274 F_runoff_Firsts_1 := ⟨Tryz.f274, Tryz.func274, by kernel_rfl⟩
theorem c_275 : Cert 275 F_quota_may := ⟨Tryz.f275, Tryz.func275, by kernel_rfl⟩
theorem c_276 : Cert 276 F_gregory_count_next := ⟨Tryz.f276, Tryz.func276, by kernel_rfl⟩
theorem c_277 : Cert 277 F_gregory_Pass := ⟨Tryz.f277, Tryz.func277, by kernel_rfl⟩
theorem c_278 : Cert 278 F_meek_count_leave_1 := ⟨Tryz.f278, Tryz.func278, by kernel_rfl⟩
theorem c_279 : Cert 279 F_quota_Share := ⟨Tryz.f279, Tryz.func279, by kernel_rfl⟩
theorem c_281 : Cert 281 F_quota_all := ⟨Tryz.f281, Tryz.func281, by kernel_rfl⟩
theorem c_282 : Cert 282 F_ratio_pair_does := ⟨Tryz.f282, Tryz.func282, by kernel_rfl⟩
theorem c_283 : Cert 283 F_ratio_pair_product := ⟨Tryz.f283, Tryz.func283, by kernel_rfl⟩
theorem c_284 : Cert 284 F_ratio_pair_sum := ⟨Tryz.f284, Tryz.func284, by kernel_rfl⟩
theorem c_285 : Cert 285 F_ratio_pair_quotient := ⟨Tryz.f285, Tryz.func285, by kernel_rfl⟩
theorem c_286 : Cert 286 F_bits_Mul := ⟨Tryz.f286, Tryz.func286, by kernel_rfl⟩
theorem c_287 : Cert 287 F_slices_order2Ordered := ⟨Tryz.f287, Tryz.func287, by kernel_rfl⟩
theorem c_288 : Cert 288 F_nat_Check := ⟨Tryz.f288, Tryz.func288, by kernel_rfl⟩
theorem c_289 : Cert 289 F_nat_order := ⟨Tryz.f289, Tryz.func289, by kernel_rfl⟩
theorem c_290 : Cert 290 F_nat_small := ⟨Tryz.f290, Tryz.func290, by kernel_rfl⟩
theorem c_291 : Cert 291 F_nat_long := ⟨Tryz.f291, Tryz.func291, by kernel_rfl⟩
theorem c_292 : Cert 292 F_nat_Same := ⟨Tryz.f292, Tryz.func292, by kernel_rfl⟩
end Go.Proofs.YtgajemhdpjomnaaGreat
