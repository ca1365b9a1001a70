/- Functions of the table are the program's, printed by a program. -/
import Derived.Test.YtgajemhdpjomnaaGreatAlX
set_option linter.unusedVariables false
set_option maxRecDepth 100000
namespace Go.Proofs.YtgajemhdpjomnaaGreat
theorem c_145 : Cert 145 F_lists_remainders := ⟨Tryz.f145, Tryz.func145, by kernel_rfl⟩
theorem c_146 : Cert 146 F_slices_Collect := ⟨Tryz.f146, Tryz.func146, by kernel_rfl⟩
theorem c_147 : Cert 147 F_slices_Values_2 := ⟨Tryz.f147, Tryz.func147, by kernel_rfl⟩
theorem c_148 : Cert 148 F_slices_IndexFunc := ⟨Tryz.f148, Tryz.func148, by kernel_rfl⟩
theorem c_149 : Cert 149 F_slices_Clone_5 := ⟨Tryz.f149, Tryz.func149, by kernel_rfl⟩
theorem c_150 : Cert 150 F_slices_insertionSortOrdered := ⟨Tryz.f150, Tryz.func150, by kernel_rfl⟩
theorem c_151 : Cert 151 F_slices_heapSortOrdered := ⟨Tryz.f151, Tryz.func151, by kernel_rfl⟩
theorem c_152 : Cert 152 F_slices_breakPatternsOrdered := ⟨Tryz.f152, Tryz.func152, by kernel_rfl⟩
theorem c_153 : Cert 153 F_slices_choosePivotOrdered := ⟨Tryz.f153, Tryz.func153, by kernel_rfl⟩
theorem c_154 : Cert 154 F_slices_reverseRangeOrdered := ⟨Tryz.f154, Tryz.func154, by kernel_rfl⟩
theorem c_155 : Cert 155 F_slices_partialInsertionSortOrdered := ⟨Tryz.f155, Tryz.func155, by kernel_rfl⟩
theorem c_156 : Cert 156 F_cmp_Less := ⟨Tryz.f156, Tryz.func156, by kernel_rfl⟩
theorem c_157 : Cert 157 F_slices_partitionEqualOrdered := ⟨Tryz.f157, Tryz.func157, by kernel_rfl⟩
theorem c_158 : Cert 158 F_slices_partitionOrdered := ⟨Tryz.f158, Tryz.func158, by kernel_rfl⟩
theorem c_159 : Cert 159 F_bits_Len32 := ⟨Tryz.f159, Tryz.func159, by kernel_rfl⟩
theorem c_160 : Cert 160 F_bits_Len64 := ⟨Tryz.f160, Tryz.func160, by kernel_rfl⟩
theorem c_161 : Cert 161 F_suffrageref03_Same := ⟨Tryz.f161, Tryz.func161, by kernel_rfl⟩
theorem c_162 : Cert 162 F_nat_Gcd := ⟨Tryz.f162, Tryz.func162, by kernel_rfl⟩
theorem c_163 : Cert 163 F_nat_Div := ⟨Tryz.f163, Tryz.func163, by kernel_rfl⟩
theorem c_164 : Cert 164 F_nat_trim := ⟨Tryz.f164, Tryz.func164, by kernel_rfl⟩
theorem c_166 : Cert 166 F_ratio_Cmp := ⟨Tryz.f166, Tryz.func166, by kernel_rfl⟩
theorem c_178 : Cert 178 F_slices_IndexFunc_2 := ⟨Tryz.f178, Tryz.func178, by kernel_rfl⟩
theorem c_179 : Cert 179 F_slices_IndexFunc_3 := ⟨Tryz.f179, Tryz.func179, by kernel_rfl⟩
theorem c_180 : Cert 180 F_slices_Index := ⟨Tryz.f180, Tryz.func180, by kernel_rfl⟩
theorem c_181 : Cert 181 F_cmp_isNaN := ⟨Tryz.f181, Tryz.func181, by kernel_rfl⟩
theorem c_182 : Cert 182 F_slices_IsSorted := ⟨Tryz.f182, Tryz.func182, by kernel_rfl⟩
theorem c_183 : Cert 183 F_choose_Count_One := ⟨Tryz.f183, Tryz.func183, by kernel_rfl⟩
theorem c_184 : Cert 184 F_pairs_within := ⟨Tryz.f184, Tryz.func184, by kernel_rfl⟩
theorem c_185 : Cert 185 F_pairs_Right := ⟨Tryz.f185, Tryz.func185, by kernel_rfl⟩
theorem c_186 : Cert 186 F_condorcet_count_1 := ⟨Tryz.f186, Tryz.func186, by kernel_rfl⟩
theorem c_187 : Cert 187 F_choose_Lot := ⟨Tryz.f187, Tryz.func187, by kernel_rfl⟩
theorem c_188 : Cert 188 F_ballot_Prefers := ⟨Tryz.f188, Tryz.func188, by kernel_rfl⟩
theorem c_189 : Cert 189 F_paths_links := ⟨Tryz.f189, Tryz.func189, by kernel_rfl⟩
theorem c_190 : Cert 190 F_paths_longer := ⟨Tryz.f190, Tryz.func190, by kernel_rfl⟩
theorem c_191 : Cert 191 F_choose_Count_tell := ⟨Tryz.f191, Tryz.func191, by kernel_rfl⟩
theorem c_192 : Cert 192 F_choose_Count_first := ⟨Tryz.f192, Tryz.func192, by kernel_rfl⟩
theorem c_193 : Cert 193 F_ranked_Order := ⟨Tryz.f193, Tryz.func193, by kernel_rfl⟩
theorem c_194 : Cert 194 F_ranked_Leads := ⟨Tryz.f194, Tryz.func194, by kernel_rfl⟩
theorem c_195 : Cert 195 F_slices_Index_2 := ⟨Tryz.f195, Tryz.func195, by kernel_rfl⟩
theorem c_196 : Cert 196 F_runoff_firsts := ⟨Tryz.f196, Tryz.func196, by kernel_rfl⟩
end Go.Proofs.YtgajemhdpjomnaaGreat
