/- Functions of the table are the program's, printed by a program. -/
import Derived.Test.YtgajemhdpjomnaaGreatAlX
set_option linter.unusedVariables false
set_option maxRecDepth 100000
namespace Go.Proofs.YtgajemhdpjomnaaGreat
theorem c_197 : Cert 197 F_runoff_count_round_1 := ⟨Tryz.f197, Tryz.func197, by kernel_rfl⟩
theorem c_198 : Cert 198 F_slices_Contains_3 := ⟨Tryz.f198, Tryz.func198, by kernel_rfl⟩
theorem c_199 : Cert 199 F_runoff_count_round_2 := ⟨Tryz.f199, Tryz.func199, by kernel_rfl⟩
theorem c_200 : Cert 200 F_choose_Count_Last := ⟨Tryz.f200, Tryz.func200, by kernel_rfl⟩
theorem c_201 : Cert 201 F_choose_Least := ⟨Tryz.f201, Tryz.func201, by kernel_rfl⟩
theorem c_202 : Cert 202 F_runoff_count_round_3 := ⟨Tryz.f202, Tryz.func202, by kernel_rfl⟩
theorem c_203 : Cert 203 F_runoff_count_round_4 := ⟨Tryz.f203, Tryz.func203, by kernel_rfl⟩
theorem c_204 : Cert 204 F_runoff_Firsts := ⟨Tryz.f204, Tryz.func204, by kernel_rfl⟩
theorem c_205 : Cert 205 F_coombs_rounds_1 := ⟨Tryz.f205, Tryz.func205, by kernel_rfl⟩
theorem c_206 : Cert 206 F_quota_Droop := ⟨Tryz.f206, Tryz.func206, by kernel_rfl⟩
theorem c_207 : Cert 207 F_profile_count := ⟨Tryz.f207, Tryz.func207, by kernel_rfl⟩
theorem c_208 : Cert 208 F_profile_Marked_1 := ⟨Tryz.f208, Tryz.func208, by kernel_rfl⟩
theorem c_209 : Cert 209 F_gregory_count_had := ⟨Tryz.f209, Tryz.func209, by kernel_rfl⟩
theorem c_210 : Cert 210 F_gregory_count_round_1 := ⟨Tryz.f210, Tryz.func210, by kernel_rfl⟩
theorem c_211 : Cert 211 F_gregory_count_in := ⟨Tryz.f211, Tryz.func211, by kernel_rfl⟩
theorem c_212 : Cert 212 F_gregory_told := ⟨Tryz.f212, Tryz.func212, by kernel_rfl⟩
theorem c_213 : Cert 213 F_gregory_count_elect := ⟨Tryz.f213, Tryz.func213, by kernel_rfl⟩
theorem c_214 : Cert 214 F_gregory_count_pass := ⟨Tryz.f214, Tryz.func214, by kernel_rfl⟩
theorem c_215 : Cert 215 F_meek_count_elect := ⟨Tryz.f215, Tryz.func215, by kernel_rfl⟩
theorem c_216 : Cert 216 F_meek_count_has := ⟨Tryz.f216, Tryz.func216, by kernel_rfl⟩
theorem c_217 : Cert 217 F_meek_count_drops_1 := ⟨Tryz.f217, Tryz.func217, by kernel_rfl⟩
theorem c_218 : Cert 218 F_meek_count_leave := ⟨Tryz.f218, Tryz.func218, by kernel_rfl⟩
theorem c_219 : Cert 219 F_meek_Keep := ⟨Tryz.f219, Tryz.func219, by kernel_rfl⟩
theorem c_223 : Cert 223 F_quota_Ratio := ⟨Tryz.f223, Tryz.func223, by kernel_rfl⟩
theorem c_224 : Cert 224 F_profile_Many_1 := ⟨Tryz.f224, Tryz.func224, by kernel_rfl⟩
theorem c_225 : Cert 225 F_phragmen_approvals := ⟨Tryz.f225, Tryz.func225, by kernel_rfl⟩
theorem c_226 : Cert 226 F_phragmen_supports := ⟨Tryz.f226, Tryz.func226, by kernel_rfl⟩
theorem c_227 : Cert 227 F_ratio_Mul := ⟨Tryz.f227, Tryz.func227, by kernel_rfl⟩
theorem c_228 : Cert 228 F_ratio_Add := ⟨Tryz.f228, Tryz.func228, by kernel_rfl⟩
theorem c_229 : Cert 229 F_ratio_Div := ⟨Tryz.f229, Tryz.func229, by kernel_rfl⟩
theorem c_230 : Cert 230 F_phragmen_cheapest_1 := ⟨Tryz.f230, Tryz.func230, by kernel_rfl⟩
theorem c_231 : Cert 231 F_lists_votes := ⟨Tryz.f231, Tryz.func231, by kernel_rfl⟩
theorem c_232 : Cert 232 F_lists_best := ⟨Tryz.f232, Tryz.func232, by kernel_rfl⟩
theorem c_233 : Cert 233 F_lists_method_allocate_1 := ⟨Tryz.f233, Tryz.func233, by kernel_rfl⟩
theorem c_234 : Cert 234 F_lists_method_allocate_2 := ⟨Tryz.f234, Tryz.func234, by kernel_rfl⟩
theorem c_235 : Cert 235 F_slices_Repeat := ⟨Tryz.f235, Tryz.func235, by kernel_rfl⟩
theorem c_236 : Cert 236 F_lists_best_2 := ⟨Tryz.f236, Tryz.func236, by kernel_rfl⟩
theorem c_237 : Cert 237 F_lists_remainders_1 := ⟨Tryz.f237, Tryz.func237, by kernel_rfl⟩
theorem c_238 : Cert 238 F_lists_remainders_2 := ⟨Tryz.f238, Tryz.func238, by kernel_rfl⟩
theorem c_239 : Cert 239 F_slices_AppendSeq := ⟨Tryz.f239, Tryz.func239, by kernel_rfl⟩
end Go.Proofs.YtgajemhdpjomnaaGreat
