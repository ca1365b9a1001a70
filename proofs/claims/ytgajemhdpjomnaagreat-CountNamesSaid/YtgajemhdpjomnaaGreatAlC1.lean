/- Functions of the table are the program's, printed by a program. -/
import Derived.Test.YtgajemhdpjomnaaGreatAlX
set_option linter.unusedVariables false
set_option maxRecDepth 100000
namespace Go.Proofs.YtgajemhdpjomnaaGreat
theorem c_54 : Cert 54 F_ranked_Count := ⟨Tryz.f54, Tryz.func54, by kernel_rfl⟩
theorem c_55 : Cert 55 F_runoff_Count := ⟨Tryz.f55, Tryz.func55, by kernel_rfl⟩
theorem c_56 : Cert 56 F_coombs_Count := ⟨Tryz.f56, Tryz.func56, by kernel_rfl⟩
theorem c_57 : Cert 57 F_gregory_Count := ⟨Tryz.f57, Tryz.func57, by kernel_rfl⟩
theorem c_58 : Cert 58 F_meek_Count := ⟨Tryz.f58, Tryz.func58, by kernel_rfl⟩
theorem c_59 : Cert 59 F_phragmen_Count := ⟨Tryz.f59, Tryz.func59, by kernel_rfl⟩
theorem c_60 : Cert 60 F_lists_DHondt := ⟨Tryz.f60, Tryz.func60, by kernel_rfl⟩
theorem c_61 : Cert 61 F_lists_Sainte := ⟨Tryz.f61, Tryz.func61, by kernel_rfl⟩
theorem c_62 : Cert 62 F_lists_Hare := ⟨Tryz.f62, Tryz.func62, by kernel_rfl⟩
theorem c_63 : Cert 63 F_slices_Sorted := ⟨Tryz.f63, Tryz.func63, by kernel_rfl⟩
theorem c_64 : Cert 64 F_slices_Values := ⟨Tryz.f64, Tryz.func64, by kernel_rfl⟩
theorem c_65 : Cert 65 F_count_fits_1 := ⟨Tryz.f65, Tryz.func65, by kernel_rfl⟩
theorem c_66 : Cert 66 F_slices_ContainsFunc := ⟨Tryz.f66, Tryz.func66, by kernel_rfl⟩
theorem c_67 : Cert 67 F_count_fits_1_1 := ⟨Tryz.f67, Tryz.func67, by kernel_rfl⟩
theorem c_68 : Cert 68 F_slices_Clone_2 := ⟨Tryz.f68, Tryz.func68, by kernel_rfl⟩
theorem c_69 : Cert 69 F_slices_Clone_3 := ⟨Tryz.f69, Tryz.func69, by kernel_rfl⟩
theorem c_70 : Cert 70 F_ratio_Twin := ⟨Tryz.f70, Tryz.func70, by kernel_rfl⟩
theorem c_71 : Cert 71 F_slices_Clone_4 := ⟨Tryz.f71, Tryz.func71, by kernel_rfl⟩
theorem c_72 : Cert 72 F_slices_pdqsortOrdered := ⟨Tryz.f72, Tryz.func72, by kernel_rfl⟩
theorem c_73 : Cert 73 F_bits_Len := ⟨Tryz.f73, Tryz.func73, by kernel_rfl⟩
theorem c_74 : Cert 74 F_suffrageref04_All := ⟨Tryz.f74, Tryz.func74, by kernel_rfl⟩
theorem c_75 : Cert 75 F_suffrageref04_Same := ⟨Tryz.f75, Tryz.func75, by kernel_rfl⟩
theorem c_76 : Cert 76 F_ratio_lowest := ⟨Tryz.f76, Tryz.func76, by kernel_rfl⟩
theorem c_77 : Cert 77 F_nat_Of := ⟨Tryz.f77, Tryz.func77, by kernel_rfl⟩
theorem c_78 : Cert 78 F_ratio_size := ⟨Tryz.f78, Tryz.func78, by kernel_rfl⟩
theorem c_79 : Cert 79 F_ratio_one := ⟨Tryz.f79, Tryz.func79, by kernel_rfl⟩
theorem c_89 : Cert 89 F_slices_ContainsFunc_2 := ⟨Tryz.f89, Tryz.func89, by kernel_rfl⟩
theorem c_90 : Cert 90 F_contest_odd_1 := ⟨Tryz.f90, Tryz.func90, by kernel_rfl⟩
theorem c_91 : Cert 91 F_contest_odd_1_1 := ⟨Tryz.f91, Tryz.func91, by kernel_rfl⟩
theorem c_92 : Cert 92 F_slices_ContainsFunc_3 := ⟨Tryz.f92, Tryz.func92, by kernel_rfl⟩
theorem c_93 : Cert 93 F_slices_Contains := ⟨Tryz.f93, Tryz.func93, by kernel_rfl⟩
theorem c_94 : Cert 94 F_cmp_Compare := ⟨Tryz.f94, Tryz.func94, by kernel_rfl⟩
theorem c_95 : Cert 95 F_ballot_within := ⟨Tryz.f95, Tryz.func95, by kernel_rfl⟩
theorem c_96 : Cert 96 F_ballot_fine := ⟨Tryz.f96, Tryz.func96, by kernel_rfl⟩
theorem c_97 : Cert 97 F_contest_rules := ⟨Tryz.f97, Tryz.func97, by kernel_rfl⟩
theorem c_98 : Cert 98 F_single_marked := ⟨Tryz.f98, Tryz.func98, by kernel_rfl⟩
theorem c_99 : Cert 99 F_single_alone := ⟨Tryz.f99, Tryz.func99, by kernel_rfl⟩
theorem c_100 : Cert 100 F_single_rule_count := ⟨Tryz.f100, Tryz.func100, by kernel_rfl⟩
theorem c_101 : Cert 101 F_single_never := ⟨Tryz.f101, Tryz.func101, by kernel_rfl⟩
theorem c_102 : Cert 102 F_single_scored := ⟨Tryz.f102, Tryz.func102, by kernel_rfl⟩
end Go.Proofs.YtgajemhdpjomnaaGreat
