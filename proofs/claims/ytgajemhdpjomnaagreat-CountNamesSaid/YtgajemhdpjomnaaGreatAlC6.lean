/- Functions of the table are the program's, printed by a program. -/
import Derived.Test.YtgajemhdpjomnaaGreatAlX
set_option linter.unusedVariables false
set_option maxRecDepth 100000
namespace Go.Proofs.YtgajemhdpjomnaaGreat
theorem c_293 : Cert 293 F_nat_Mul := ⟨Tryz.f293, Tryz.func293, by kernel_rfl⟩
theorem c_304 : Cert 304 F_choose_Count_Seats_1 := ⟨Tryz.f304, Tryz.func304, by kernel_rfl⟩
theorem c_305 : Cert 305 F_choose_Count_Seats_2 := ⟨Tryz.f305, Tryz.func305, by kernel_rfl⟩
theorem c_306 : Cert 306 F_slices_stableCmpFunc := ⟨Tryz.f306, Tryz.func306, by kernel_rfl⟩
theorem c_307 : Cert 307 F_quota_within := ⟨Tryz.f307, Tryz.func307, by kernel_rfl⟩
theorem c_308 : Cert 308 F_gregory_count_next_1 := ⟨Tryz.f308, Tryz.func308, by kernel_rfl⟩
theorem c_309 : Cert 309 F_quota_product := ⟨Tryz.f309, Tryz.func309, by kernel_rfl⟩
theorem c_310 : Cert 310 F_nat_Add := ⟨Tryz.f310, Tryz.func310, by kernel_rfl⟩
theorem c_311 : Cert 311 F_nat_Sub := ⟨Tryz.f311, Tryz.func311, by kernel_rfl⟩
theorem c_312 : Cert 312 F_bits_Mul32 := ⟨Tryz.f312, Tryz.func312, by kernel_rfl⟩
theorem c_313 : Cert 313 F_bits_Mul64 := ⟨Tryz.f313, Tryz.func313, by kernel_rfl⟩
theorem c_314 : Cert 314 F_bits_Div32 := ⟨Tryz.f314, Tryz.func314, by kernel_rfl⟩
theorem c_315 : Cert 315 F_bits_LeadingZeros32 := ⟨Tryz.f315, Tryz.func315, by kernel_rfl⟩
theorem c_316 : Cert 316 F_nat_shifted := ⟨Tryz.f316, Tryz.func316, by kernel_rfl⟩
theorem c_317 : Cert 317 F_nat_guess := ⟨Tryz.f317, Tryz.func317, by kernel_rfl⟩
theorem c_318 : Cert 318 F_nat_takes := ⟨Tryz.f318, Tryz.func318, by kernel_rfl⟩
theorem c_319 : Cert 319 F_nat_back := ⟨Tryz.f319, Tryz.func319, by kernel_rfl⟩
theorem c_320 : Cert 320 F_slices_Equal := ⟨Tryz.f320, Tryz.func320, by kernel_rfl⟩
theorem c_321 : Cert 321 F_nat_times := ⟨Tryz.f321, Tryz.func321, by kernel_rfl⟩
theorem c_322 : Cert 322 F_nat_fits := ⟨Tryz.f322, Tryz.func322, by kernel_rfl⟩
theorem c_327 : Cert 327 F_slices_insertionSortCmpFunc := ⟨Tryz.f327, Tryz.func327, by kernel_rfl⟩
theorem c_328 : Cert 328 F_slices_symMergeCmpFunc := ⟨Tryz.f328, Tryz.func328, by kernel_rfl⟩
theorem c_329 : Cert 329 F_bits_Div64 := ⟨Tryz.f329, Tryz.func329, by kernel_rfl⟩
theorem c_330 : Cert 330 F_bits_Add32 := ⟨Tryz.f330, Tryz.func330, by kernel_rfl⟩
theorem c_331 : Cert 331 F_nat_limb := ⟨Tryz.f331, Tryz.func331, by kernel_rfl⟩
theorem c_332 : Cert 332 F_nat_less := ⟨Tryz.f332, Tryz.func332, by kernel_rfl⟩
theorem c_333 : Cert 333 F_bits_Sub32 := ⟨Tryz.f333, Tryz.func333, by kernel_rfl⟩
theorem c_336 : Cert 336 F_slices_rotateCmpFunc := ⟨Tryz.f336, Tryz.func336, by kernel_rfl⟩
theorem c_337 : Cert 337 F_bits_LeadingZeros64 := ⟨Tryz.f337, Tryz.func337, by kernel_rfl⟩
theorem c_338 : Cert 338 F_slices_swapRangeCmpFunc := ⟨Tryz.f338, Tryz.func338, by kernel_rfl⟩
theorem c_355 : Cert 355 F_coombs_most_elects := ⟨Tryz.f355, Tryz.func355, by kernel_rfl⟩
theorem c_356 : Cert 356 F_coombs_most_out := ⟨Tryz.f356, Tryz.func356, by kernel_rfl⟩
theorem c_357 : Cert 357 F_coombs_most_elects_1 := ⟨Tryz.f357, Tryz.func357, by kernel_rfl⟩
theorem c_358 : Cert 358 F_coombs_against := ⟨Tryz.f358, Tryz.func358, by kernel_rfl⟩
theorem c_359 : Cert 359 F_coombs_most_out_1 := ⟨Tryz.f359, Tryz.func359, by kernel_rfl⟩
theorem c_360 : Cert 360 F_gregory_hopeful_has := ⟨Tryz.f360, Tryz.func360, by kernel_rfl⟩
theorem c_361 : Cert 361 F_gregory_hopeful_in := ⟨Tryz.f361, Tryz.func361, by kernel_rfl⟩
theorem c_362 : Cert 362 F_gregory_done_has := ⟨Tryz.f362, Tryz.func362, by kernel_rfl⟩
theorem c_363 : Cert 363 F_gregory_done_in := ⟨Tryz.f363, Tryz.func363, by kernel_rfl⟩
end Go.Proofs.YtgajemhdpjomnaaGreat
