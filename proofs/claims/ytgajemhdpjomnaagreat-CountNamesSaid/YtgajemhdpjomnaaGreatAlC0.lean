/- Functions of the table are the program's, printed by a program. -/
import Derived.Test.YtgajemhdpjomnaaGreatAlX
set_option linter.unusedVariables false
set_option maxRecDepth 100000
namespace Go.Proofs.YtgajemhdpjomnaaGreat
theorem c_3 : Cert 3 F_suffragelaw22_CountNames := ⟨Tryz.f3, Tryz.func3, by kernel_rfl⟩
theorem c_5 : Cert 5 F_suffragelaw22_five := ⟨Tryz.f5, Tryz.func5, by kernel_rfl⟩
theorem c_6 : Cert 6 F_count_Run := ⟨Tryz.f6, Tryz.func6, by kernel_rfl⟩
theorem c_7 : Cert 7 F_count_Seats := ⟨Tryz.f7, Tryz.func7, by kernel_rfl⟩
theorem c_8 : Cert 8 F_count_Rename := ⟨Tryz.f8, Tryz.func8, by kernel_rfl⟩
theorem c_9 : Cert 9 F_suffragelaw22_alive := ⟨Tryz.f9, Tryz.func9, by kernel_rfl⟩
theorem c_10 : Cert 10 F_suffrageref08_Ints := ⟨Tryz.f10, Tryz.func10, by kernel_rfl⟩
theorem c_11 : Cert 11 F_suffrageref11_Same := ⟨Tryz.f11, Tryz.func11, by kernel_rfl⟩
theorem c_18 : Cert 18 F_contest_Check := ⟨Tryz.f18, Tryz.func18, by kernel_rfl⟩
theorem c_19 : Cert 19 F_profile_Check := ⟨Tryz.f19, Tryz.func19, by kernel_rfl⟩
theorem c_20 : Cert 20 F_contest_Kind := ⟨Tryz.f20, Tryz.func20, by kernel_rfl⟩
theorem c_21 : Cert 21 F_count_rules := ⟨Tryz.f21, Tryz.func21, by kernel_rfl⟩
theorem c_22 : Cert 22 F_count_turns := ⟨Tryz.f22, Tryz.func22, by kernel_rfl⟩
theorem c_23 : Cert 23 F_count_fits := ⟨Tryz.f23, Tryz.func23, by kernel_rfl⟩
theorem c_24 : Cert 24 F_count_Twin := ⟨Tryz.f24, Tryz.func24, by kernel_rfl⟩
theorem c_25 : Cert 25 F_count_Rename_1 := ⟨Tryz.f25, Tryz.func25, by kernel_rfl⟩
theorem c_26 : Cert 26 F_count_ratios := ⟨Tryz.f26, Tryz.func26, by kernel_rfl⟩
theorem c_27 : Cert 27 F_slices_Sort := ⟨Tryz.f27, Tryz.func27, by kernel_rfl⟩
theorem c_28 : Cert 28 F_suffrageref11_rounds := ⟨Tryz.f28, Tryz.func28, by kernel_rfl⟩
theorem c_29 : Cert 29 F_suffrageref11_Ties := ⟨Tryz.f29, Tryz.func29, by kernel_rfl⟩
theorem c_30 : Cert 30 F_ratio_Of := ⟨Tryz.f30, Tryz.func30, by kernel_rfl⟩
theorem c_31 : Cert 31 F_ratio_Whole := ⟨Tryz.f31, Tryz.func31, by kernel_rfl⟩
theorem c_35 : Cert 35 F_slices_Clone := ⟨Tryz.f35, Tryz.func35, by kernel_rfl⟩
theorem c_37 : Cert 37 F_contest_odd := ⟨Tryz.f37, Tryz.func37, by kernel_rfl⟩
theorem c_38 : Cert 38 F_contest_twice := ⟨Tryz.f38, Tryz.func38, by kernel_rfl⟩
theorem c_39 : Cert 39 F_contest_fits := ⟨Tryz.f39, Tryz.func39, by kernel_rfl⟩
theorem c_40 : Cert 40 F_profile_all := ⟨Tryz.f40, Tryz.func40, by kernel_rfl⟩
theorem c_41 : Cert 41 F_profile_Check_1 := ⟨Tryz.f41, Tryz.func41, by kernel_rfl⟩
theorem c_42 : Cert 42 F_slices_Compare := ⟨Tryz.f42, Tryz.func42, by kernel_rfl⟩
theorem c_43 : Cert 43 F_ballot_Check := ⟨Tryz.f43, Tryz.func43, by kernel_rfl⟩
theorem c_44 : Cert 44 F_profile_of := ⟨Tryz.f44, Tryz.func44, by kernel_rfl⟩
theorem c_45 : Cert 45 F_profile_New := ⟨Tryz.f45, Tryz.func45, by kernel_rfl⟩
theorem c_46 : Cert 46 F_contest_of := ⟨Tryz.f46, Tryz.func46, by kernel_rfl⟩
theorem c_47 : Cert 47 F_single_Plurality := ⟨Tryz.f47, Tryz.func47, by kernel_rfl⟩
theorem c_48 : Cert 48 F_single_Approval := ⟨Tryz.f48, Tryz.func48, by kernel_rfl⟩
theorem c_49 : Cert 49 F_single_Score := ⟨Tryz.f49, Tryz.func49, by kernel_rfl⟩
theorem c_50 : Cert 50 F_single_Borda := ⟨Tryz.f50, Tryz.func50, by kernel_rfl⟩
theorem c_51 : Cert 51 F_condorcet_Copeland := ⟨Tryz.f51, Tryz.func51, by kernel_rfl⟩
theorem c_52 : Cert 52 F_condorcet_Minimax := ⟨Tryz.f52, Tryz.func52, by kernel_rfl⟩
theorem c_53 : Cert 53 F_paths_Count := ⟨Tryz.f53, Tryz.func53, by kernel_rfl⟩
end Go.Proofs.YtgajemhdpjomnaaGreat
