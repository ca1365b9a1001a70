/- Functions of the table are the program's, printed by a program. -/
import Derived.Test.YtgajemhdpjomnaaGreatAlX
set_option linter.unusedVariables false
set_option maxRecDepth 100000
namespace Go.Proofs.YtgajemhdpjomnaaGreat
theorem c_103 : Cert 103 F_single_ranked := ⟨Tryz.f103, Tryz.func103, by kernel_rfl⟩
theorem c_104 : Cert 104 F_condorcet_Copeland_1 := ⟨Tryz.f104, Tryz.func104, by kernel_rfl⟩
theorem c_105 : Cert 105 F_pairs_Margin := ⟨Tryz.f105, Tryz.func105, by kernel_rfl⟩
theorem c_106 : Cert 106 F_condorcet_count := ⟨Tryz.f106, Tryz.func106, by kernel_rfl⟩
theorem c_107 : Cert 107 F_condorcet_Copeland_2 := ⟨Tryz.f107, Tryz.func107, by kernel_rfl⟩
theorem c_108 : Cert 108 F_condorcet_Minimax_1 := ⟨Tryz.f108, Tryz.func108, by kernel_rfl⟩
theorem c_109 : Cert 109 F_condorcet_Minimax_2 := ⟨Tryz.f109, Tryz.func109, by kernel_rfl⟩
theorem c_110 : Cert 110 F_choose_Check := ⟨Tryz.f110, Tryz.func110, by kernel_rfl⟩
theorem c_111 : Cert 111 F_pairs_Of := ⟨Tryz.f111, Tryz.func111, by kernel_rfl⟩
theorem c_112 : Cert 112 F_paths_Strengths := ⟨Tryz.f112, Tryz.func112, by kernel_rfl⟩
theorem c_113 : Cert 113 F_choose_Of := ⟨Tryz.f113, Tryz.func113, by kernel_rfl⟩
theorem c_114 : Cert 114 F_choose_Count_First := ⟨Tryz.f114, Tryz.func114, by kernel_rfl⟩
theorem c_115 : Cert 115 F_choose_Best := ⟨Tryz.f115, Tryz.func115, by kernel_rfl⟩
theorem c_116 : Cert 116 F_choose_All := ⟨Tryz.f116, Tryz.func116, by kernel_rfl⟩
theorem c_117 : Cert 117 F_paths_Count_1 := ⟨Tryz.f117, Tryz.func117, by kernel_rfl⟩
theorem c_118 : Cert 118 F_choose_Wholes := ⟨Tryz.f118, Tryz.func118, by kernel_rfl⟩
theorem c_119 : Cert 119 F_ranked_Lock := ⟨Tryz.f119, Tryz.func119, by kernel_rfl⟩
theorem c_120 : Cert 120 F_slices_Contains_2 := ⟨Tryz.f120, Tryz.func120, by kernel_rfl⟩
theorem c_121 : Cert 121 F_slices_DeleteFunc := ⟨Tryz.f121, Tryz.func121, by kernel_rfl⟩
theorem c_122 : Cert 122 F_ranked_Count_1 := ⟨Tryz.f122, Tryz.func122, by kernel_rfl⟩
theorem c_123 : Cert 123 F_runoff_count_round := ⟨Tryz.f123, Tryz.func123, by kernel_rfl⟩
theorem c_124 : Cert 124 F_coombs_rounds := ⟨Tryz.f124, Tryz.func124, by kernel_rfl⟩
theorem c_125 : Cert 125 F_gregory_Quota := ⟨Tryz.f125, Tryz.func125, by kernel_rfl⟩
theorem c_126 : Cert 126 F_profile_Marked := ⟨Tryz.f126, Tryz.func126, by kernel_rfl⟩
theorem c_127 : Cert 127 F_gregory_count_round := ⟨Tryz.f127, Tryz.func127, by kernel_rfl⟩
theorem c_128 : Cert 128 F_meek_count_fills := ⟨Tryz.f128, Tryz.func128, by kernel_rfl⟩
theorem c_129 : Cert 129 F_meek_count_reaches := ⟨Tryz.f129, Tryz.func129, by kernel_rfl⟩
theorem c_130 : Cert 130 F_meek_count_drops := ⟨Tryz.f130, Tryz.func130, by kernel_rfl⟩
theorem c_131 : Cert 131 F_meek_count_keep := ⟨Tryz.f131, Tryz.func131, by kernel_rfl⟩
theorem c_134 : Cert 134 F_phragmen_zeros := ⟨Tryz.f134, Tryz.func134, by kernel_rfl⟩
theorem c_135 : Cert 135 F_profile_Many := ⟨Tryz.f135, Tryz.func135, by kernel_rfl⟩
theorem c_136 : Cert 136 F_phragmen_Count_1 := ⟨Tryz.f136, Tryz.func136, by kernel_rfl⟩
theorem c_137 : Cert 137 F_phragmen_Cost := ⟨Tryz.f137, Tryz.func137, by kernel_rfl⟩
theorem c_138 : Cert 138 F_phragmen_cheapest := ⟨Tryz.f138, Tryz.func138, by kernel_rfl⟩
theorem c_139 : Cert 139 F_phragmen_elect := ⟨Tryz.f139, Tryz.func139, by kernel_rfl⟩
theorem c_140 : Cert 140 F_phragmen_Count_1_1 := ⟨Tryz.f140, Tryz.func140, by kernel_rfl⟩
theorem c_141 : Cert 141 F_lists_count := ⟨Tryz.f141, Tryz.func141, by kernel_rfl⟩
theorem c_142 : Cert 142 F_lists_DHondt_1 := ⟨Tryz.f142, Tryz.func142, by kernel_rfl⟩
theorem c_143 : Cert 143 F_lists_method_allocate := ⟨Tryz.f143, Tryz.func143, by kernel_rfl⟩
theorem c_144 : Cert 144 F_lists_Sainte_1 := ⟨Tryz.f144, Tryz.func144, by kernel_rfl⟩
end Go.Proofs.YtgajemhdpjomnaaGreat
