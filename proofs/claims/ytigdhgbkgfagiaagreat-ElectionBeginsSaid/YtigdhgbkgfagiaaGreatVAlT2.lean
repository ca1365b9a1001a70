/- The functions in the abstract language, worked out by Lean. -/
import Derived.Test.YtigdhgbkgfagiaaGreatVQ1
set_option linter.unusedVariables false
set_option maxHeartbeats 1000000
set_option maxRecDepth 100000
namespace Go.Proofs.YtigdhgbkgfagiaaGreat
noncomputable section
def T111:TfQ [[1,4],[9,10,11,12,13,14,15,16,17,18,19,20,21,22,23,24,25,26,27,28],[0,3,29],[29,30,31,32,33,34,35,36,37,38,39,40,41,42,43,44,45,46,47],[6,48,49,50,51,52,53,54],[0,3,5,55],[55,56,57,58,59,60,61,62,63,64,65],[8,66,67,68,69,70,71,72,73,74,75,76,77,78],[0,3,5,7,79],[79,80,81,82,83,84,85],[3,7,86,87,88,89,90,91,92,93],[0,5,94,95,96,97,98,99,100,101,102,103,104],[]] Tryz.f111:=FN _ Tryz.f111 105 2 [.t 4] (PC.seq ⟨_,by conv=>lhs;cbv⟩ (PC.seq ⟨_,by conv=>lhs;cbv⟩ (PC.seq ⟨_,by conv=>lhs;cbv⟩ (PC.seq ⟨_,by conv=>lhs;cbv⟩ ⟨_,by conv=>lhs;cbv⟩))))
theorem c111:Cert 111 T111.1:=cert_of T111.2 Tryz.func111
def T112:TfQ [[4],[],[6,7,8],[10,11,18],[9,12,13,14,15,16,17],[0,1,5,18,19],[0,1,5,9]] Tryz.f112:=⟨_,by conv=>lhs;cbv⟩
theorem c112:Cert 112 T112.1:=cert_of T112.2 Tryz.func112
def T113:TfQ [[2],[4,5,6,7,8,9,10],[0,11],[11],[12,13,14],[16,17,27],[15,18,19,20,21,22,23,24,25,26],[0,3,27],[0,3,15]] Tryz.f113:=⟨_,by conv=>lhs;cbv⟩
theorem c113:Cert 113 T113.1:=cert_of T113.2 Tryz.func113
def T114:TfQ [[6],[0,8,9,10],[1,2,11,12,13,14,15],[7,16]] Tryz.f114:=⟨_,by conv=>lhs;cbv⟩
theorem c114:Cert 114 T114.1:=cert_of T114.2 Tryz.func114
def T115:TfQ [[0,1,2,7],[12,13,14,15,16],[17,18,19,20,21,22,23,24,25,26,27,28,29,30,31,32,33,34,35,36,37],[3,4,5,8,38,39],[3,38,40,41,42,43,44,45,46,47,48,49,50,51],[10,52,53,54,55,56,57,58],[4,5,8,9,59,60],[59,61,62,63,64,65],[66],[11,67,68,69,70],[4,5,8,9,71,72],[5,71,73,74,75,76,77,78,79,80,81],[82,83,84,85,86,87,88],[89,90,91,92],[5,67,93,94,95,96,97],[4,8,9,11,98,99],[98,100,101,102,103,104],[11,105,106,107,108,109,110,111],[8,112,113,114,115,116],[9,117,118,119,120,121,122,123,124,125],[4,126]] Tryz.f115:=FN _ Tryz.f115 127 3 [.cell 6 5 false,.t 7] (PC.seq ⟨_,by conv=>lhs;cbv⟩ (PC.seq ⟨_,by conv=>lhs;cbv⟩ (PC.seq ⟨_,by conv=>lhs;cbv⟩ (PC.seq ⟨_,by conv=>lhs;cbv⟩ (PC.seq ⟨_,by conv=>lhs;cbv⟩ (PC.seq ⟨_,by conv=>lhs;cbv⟩ (PC.seq ⟨_,by conv=>lhs;cbv⟩ ⟨_,by conv=>lhs;cbv⟩)))))))
theorem c115:Cert 115 T115.1:=cert_of T115.2 Tryz.func115
def T116:TfQ [[2],[],[4,5,6],[8,9,15],[7,10,11,12,13,14],[0,3,15],[0,3,7]] Tryz.f116:=⟨_,by conv=>lhs;cbv⟩
theorem c116:Cert 116 T116.1:=cert_of T116.2 Tryz.func116
def T117:TfQ [[5],[6],[0,1,7,8],[0,1,7,9,10,11,12,13,14,15,16,17,18,19,20]] Tryz.f117:=⟨_,by conv=>lhs;cbv⟩
theorem c117:Cert 117 T117.1:=cert_of T117.2 Tryz.func117
def T118:TfQ [[2],[0,3,4]] Tryz.f118:=⟨_,by conv=>lhs;cbv⟩
theorem c118:Cert 118 T118.1:=cert_of T118.2 Tryz.func118
def T119:TfQ [[2],[],[],[8,9,10,11],[3,4,12,13,14,15],[0,5,6,7,16],[16,17],[0,5,6,7,8]] Tryz.f119:=⟨_,by conv=>lhs;cbv⟩
theorem c119:Cert 119 T119.1:=cert_of T119.2 Tryz.func119
def T120:TfQ [[0,2],[3,4,5,6,7,8,9],[1,10],[10,11,12,13],[16],[1,14,15,17,18,19],[15,21],[1,14,20,22,23,24,25,26,27],[1,14,20,29],[28],[28]] Tryz.f120:=⟨_,by conv=>lhs;cbv⟩
theorem c120:Cert 120 T120.1:=cert_of T120.2 Tryz.func120
def T121:TfQ [[0,2],[5,6,7,8,9,10,11,12,13,14,15,16,17,18,19,20,21,22,23,24,25,26,27,28,29],[1,30],[1,4,30,31,32,33,34,35,36,37,38],[3,39,40,41],[42],[42]] Tryz.f121:=⟨_,by conv=>lhs;cbv⟩
theorem c121:Cert 121 T121.1:=cert_of T121.2 Tryz.func121
def T122:TfQ [[0,2],[4,5,6,7],[1,3],[1,3,9,10],[8],[8]] Tryz.f122:=⟨_,by conv=>lhs;cbv⟩
theorem c122:Cert 122 T122.1:=cert_of T122.2 Tryz.func122
def T123:TfQ [[0,2,3,4],[5,6,7,8,9,10,11,12,13,14],[15],[1,16,17],[1,16,18,19,20,21,22,23,24,25,26,27],[28,29,30]] Tryz.f123:=⟨_,by conv=>lhs;cbv⟩
theorem c123:Cert 123 T123.1:=cert_of T123.2 Tryz.func123
def T124:TfQ [[4,5],[7,8,9],[10],[0,1,6,11,12],[0,1,6,11,13,14,15]] Tryz.f124:=⟨_,by conv=>lhs;cbv⟩
theorem c124:Cert 124 T124.1:=cert_of T124.2 Tryz.func124
def T125:TfQ [[2],[0,3,4,5,6,7,8,9]] Tryz.f125:=⟨_,by conv=>lhs;cbv⟩
theorem c125:Cert 125 T125.1:=cert_of T125.2 Tryz.func125
def T126:TfQ [[2],[3],[0,4,5,6,7,8,9],[0,4,10,11]] Tryz.f126:=⟨_,by conv=>lhs;cbv⟩
theorem c126:Cert 126 T126.1:=cert_of T126.2 Tryz.func126
def T127:TfQ [[0],[1]] Tryz.f127:=⟨_,by conv=>lhs;cbv⟩
theorem c127:Cert 127 T127.1:=cert_of T127.2 Tryz.func127
def T128:TfQ [[2],[0,3,4,5,6,7,8]] Tryz.f128:=⟨_,by conv=>lhs;cbv⟩
theorem c128:Cert 128 T128.1:=cert_of T128.2 Tryz.func128
def T129:TfQ [[2],[0,3,4,5,6,7,8]] Tryz.f129:=⟨_,by conv=>lhs;cbv⟩
theorem c129:Cert 129 T129.1:=cert_of T129.2 Tryz.func129
def T130:TfQ [[2],[0,3,4,5,6,7,8]] Tryz.f130:=⟨_,by conv=>lhs;cbv⟩
theorem c130:Cert 130 T130.1:=cert_of T130.2 Tryz.func130
def T131:TfQ [[0,2],[5,6,7,8,9,10,11,12,13,14,15,16,17,18,19,20,21,22,23,24,25],[1,26],[1,4,26,27,28,29,30,31,32,33,34],[3,35,36,37],[38],[38]] Tryz.f131:=⟨_,by conv=>lhs;cbv⟩
theorem c131:Cert 131 T131.1:=cert_of T131.2 Tryz.func131
def T132:TfQ [[0,1,4],[2,3,5,6,7,8,9,10,11,12]] Tryz.f132:=⟨_,by conv=>lhs;cbv⟩
theorem c132:Cert 132 T132.1:=cert_of T132.2 Tryz.func132
def T133:TfQ [[0,2],[3,4,5],[1,6],[1,6,7],[8],[8]] Tryz.f133:=⟨_,by conv=>lhs;cbv⟩
theorem c133:Cert 133 T133.1:=cert_of T133.2 Tryz.func133
def T134:TfQ [[4,5],[13,14,15],[16],[0,1,6,17,18],[6,17],[],[19,20,21],[23,24],[22,25,26],[],[],[27,28,29],[31,32],[10,30,33,34,35,36,37,38,39,40,41,42,43,44,45],[46,47,48,49,50,51],[12,52,53],[9,10,11,30,54,55,56,57,58,59,60],[0,1,8,22,61,62],[7,63],[7,63,64]] Tryz.f134:=⟨_,by conv=>lhs;cbv⟩
theorem c134:Cert 134 T134.1:=cert_of T134.2 Tryz.func134
def T135:TfQ [[4,5],[7,8,9],[10],[0,1,6,11,12],[6,11,13,14],[0,1,15],[0,1,15,16,17],[18],[18]] Tryz.f135:=⟨_,by conv=>lhs;cbv⟩
theorem c135:Cert 135 T135.1:=cert_of T135.2 Tryz.func135
def T136:TfQ [[5],[6],[0,1,7,8],[0,1,7,9,10,11,12,13,14,15,16,17,18,19,20]] Tryz.f136:=⟨_,by conv=>lhs;cbv⟩
theorem c136:Cert 136 T136.1:=cert_of T136.2 Tryz.func136
def T137:TfQ [[6],[],[],[10,11],[7,12,13,14,15,16,17,18,19,20,21,22],[23],[0,1,2,8,9,10,24]] Tryz.f137:=⟨_,by conv=>lhs;cbv⟩
theorem c137:Cert 137 T137.1:=cert_of T137.2 Tryz.func137
def T138:TfQ [[2],[3],[0,4],[0,4,5,6,7]] Tryz.f138:=⟨_,by conv=>lhs;cbv⟩
theorem c138:Cert 138 T138.1:=cert_of T138.2 Tryz.func138
def T139:TfQ [[4],[],[],[7,8],[10,11],[9,12,13,14,15,16,17],[18,19],[0,1,5,6,9,20]] Tryz.f139:=⟨_,by conv=>lhs;cbv⟩
theorem c139:Cert 139 T139.1:=cert_of T139.2 Tryz.func139
def T140:TfQ [[2],[3],[0,4],[0,4,5,6,7]] Tryz.f140:=⟨_,by conv=>lhs;cbv⟩
theorem c140:Cert 140 T140.1:=cert_of T140.2 Tryz.func140
def T141:TfQ [[2],[3],[0,4],[0,4,5,6,7]] Tryz.f141:=⟨_,by conv=>lhs;cbv⟩
theorem c141:Cert 141 T141.1:=cert_of T141.2 Tryz.func141
def T142:TfQ [[4],[6,7,8,9],[0,1,10],[10],[11,12,13],[15,16,25],[14,17,18,19,20,21,22,23,24],[0,1,5,25],[0,1,5,14]] Tryz.f142:=⟨_,by conv=>lhs;cbv⟩
theorem c142:Cert 142 T142.1:=cert_of T142.2 Tryz.func142
def T143:TfQ [[4],[6,7,8,9],[0,1,10],[10],[11,12,13],[15,16,26],[14,17,18,19,20,21,22,23,24,25],[0,1,5,26],[0,1,5,14]] Tryz.f143:=⟨_,by conv=>lhs;cbv⟩
theorem c143:Cert 143 T143.1:=cert_of T143.2 Tryz.func143
def T144:TfQ [[4],[6,7,8,9],[0,1,10],[10,11],[],[14,15],[5,16,17,18,19,20,21,22,23],[0,1,12,13,24],[24,25],[0,1,12,13,14]] Tryz.f144:=⟨_,by conv=>lhs;cbv⟩
theorem c144:Cert 144 T144.1:=cert_of T144.2 Tryz.func144
def T145:TfQ [[4],[0,1,5,6,7]] Tryz.f145:=⟨_,by conv=>lhs;cbv⟩
theorem c145:Cert 145 T145.1:=cert_of T145.2 Tryz.func145
def T146:TfQ [[2],[4],[],[7,8],[3,9,10,11,12,13,14,15,16,17],[0,5,6,18],[18,19],[0,5,6,7,20,21,22,23,24,25,26]] Tryz.f146:=⟨_,by conv=>lhs;cbv⟩
theorem c146:Cert 146 T146.1:=cert_of T146.2 Tryz.func146
def T147:TfQ [[0,1,2,9],[22,23,24],[25],[3,4,5,6,26,27,28],[9,26,29,30,31,32,33,34,35,36,37,38,39,40,41,42,43,44,45,46,47,48,49,50,51,52],[3,4,5,6,53,54],[53,55,56,57,58,59],[3,4,5,6,60,61],[11,60,62,63,64,65,66,67],[13,68,69,70,71,72,73,74,75,76],[4,12,77,78,79,80,81,82,83,84,85,86,87,88,89,90,91,92,93],[94,95,96,97],[6,98],[],[102,103,104,105],[16,17,106,107,108,109,110,111,112,113,114,115,116,117,118,119,120,121,122,123,124,125,126,127,128],[129],[3,5,99,100,101,102],[],[133,134,135],[136,137,138,139,140,141,142,143,144,145,146,147,148,149,150,151,152],[10,14,15,19,130,131,132,153,154],[19,153,155,156,157,158,159,160,161,162,163,164,165,166,167],[168],[15,130,131,132,133],[],[172,173,174,175],[21],[20,176,177,178,179,180,181,182,183,184,185,186,187,188],[20,176,189],[169,170,171,172,190,191,192,193,194,195],[10,196,197,198,199],[14,200,201,202,203]] Tryz.f147:=FN _ Tryz.f147 204 4 [.cell 8 4 false,.t 9] (PC.seq ⟨_,by conv=>lhs;cbv⟩ (PC.seq ⟨_,by conv=>lhs;cbv⟩ (PC.seq ⟨_,by conv=>lhs;cbv⟩ (PC.seq ⟨_,by conv=>lhs;cbv⟩ (PC.seq ⟨_,by conv=>lhs;cbv⟩ (PC.seq ⟨_,by conv=>lhs;cbv⟩ (PC.seq ⟨_,by conv=>lhs;cbv⟩ (PC.seq ⟨_,by conv=>lhs;cbv⟩ (PC.seq ⟨_,by conv=>lhs;cbv⟩ (PC.seq ⟨_,by conv=>lhs;cbv⟩ ⟨_,by conv=>lhs;cbv⟩))))))))))
theorem c147:Cert 147 T147.1:=cert_of T147.2 Tryz.func147
def T148:TfQ [[0,1,2,9],[16,17,18],[19],[3,4,5,6,10,20,21,22],[10,20,23,24],[3,4,5,6,25,26],[25,27,28,29,30,31],[3,4,5,6,32,33],[32],[34,35,36],[12,38,39,74],[37,40,41,42,43,44,45,46,47,48,49,50,51,52,53,54,55,56,57,58,59,60,61,62,63,64,65,66,67,68,69],[3,4,5,6,11,70,71],[70],[72,73],[75,76,87],[74,77,78,79,80,81,82,83,84,85,86],[3,4,5,6,11,12,87,88],[3,6,11,37,89,90,91,92,93,94,95],[14,96,97],[98,99,100,101,102],[103,104],[107],[4,5,13,105,106,108,109,110,111,112,113,114,115,116,117,118,119,120],[5,106,122],[4,13,105,121,123,124,125,126,127,128,129,130,131,132,133,134,135,136],[105,121,138],[4,13,137,139,140,141,142,143,144,145,146,147,148,149],[4,13,15,137,150]] Tryz.f148:=FN _ Tryz.f148 151 4 [.cell 8 4 false,.t 9] (PC.seq ⟨_,by conv=>lhs;cbv⟩ (PC.seq ⟨_,by conv=>lhs;cbv⟩ (PC.seq ⟨_,by conv=>lhs;cbv⟩ (PC.seq ⟨_,by conv=>lhs;cbv⟩ (PC.seq ⟨_,by conv=>lhs;cbv⟩ (PC.seq (PC.seq ⟨_,by conv=>lhs;cbv⟩ (PC.block 0 (PC.loop (PC.seq ⟨_,by conv=>lhs;cbv⟩ (PC.seq (PC.block 1 (PC.seq ⟨_,by conv=>lhs;cbv⟩ ⟨_,by conv=>lhs;cbv⟩)) ⟨_,by conv=>lhs;cbv⟩))))) (PC.seq ⟨_,by conv=>lhs;cbv⟩ (PC.seq ⟨_,by conv=>lhs;cbv⟩ ⟨_,by conv=>lhs;cbv⟩))))))))
theorem c148:Cert 148 T148.1:=cert_of T148.2 Tryz.func148
def T149:TfQ [[4],[],[6,7,8],[10,11,17],[9,12,13,14,15,16],[0,1,5,17,18],[0,1,5,9]] Tryz.f149:=⟨_,by conv=>lhs;cbv⟩
theorem c149:Cert 149 T149.1:=cert_of T149.2 Tryz.func149
def T150:TfQ [[],[8,9,10,11,12,13,14],[15,16,17,18,19,20,21],[7,22,23,24,25,26,27,28],[0,1,2,29,30,31,32,33,34,35,36,37]] Tryz.f150:=⟨_,by conv=>lhs;cbv⟩
theorem c150:Cert 150 T150.1:=cert_of T150.2 Tryz.func150
def T151:TfQ [[4],[0,1,5,6,7,8]] Tryz.f151:=⟨_,by conv=>lhs;cbv⟩
theorem c151:Cert 151 T151.1:=cert_of T151.2 Tryz.func151
def T152:TfQ [[2],[],[0,3,4,5,6,7,8,9,10,11,12,13,14,15,16]] Tryz.f152:=⟨_,by conv=>lhs;cbv⟩
theorem c152:Cert 152 T152.1:=cert_of T152.2 Tryz.func152
def T153:TfQ [[2],[0,3,4,5,6,7,8]] Tryz.f153:=⟨_,by conv=>lhs;cbv⟩
theorem c153:Cert 153 T153.1:=cert_of T153.2 Tryz.func153
def T154:TfQ [[4],[0,1,5,6,7,8]] Tryz.f154:=⟨_,by conv=>lhs;cbv⟩
theorem c154:Cert 154 T154.1:=cert_of T154.2 Tryz.func154
def T155:TfQ [[4],[0,1,5,6,7,8]] Tryz.f155:=⟨_,by conv=>lhs;cbv⟩
theorem c155:Cert 155 T155.1:=cert_of T155.2 Tryz.func155
def T156:TfQ [[],[4],[5,6],[0,3,7,8,9,10],[0,3,7,11]] Tryz.f156:=⟨_,by conv=>lhs;cbv⟩
theorem c156:Cert 156 T156.1:=cert_of T156.2 Tryz.func156
def T157:TfQ [[2],[4,5],[7,8],[0,3,6],[0,3,6,10,11,12,13,14,15,16,17,18,19],[9],[9]] Tryz.f157:=⟨_,by conv=>lhs;cbv⟩
theorem c157:Cert 157 T157.1:=cert_of T157.2 Tryz.func157
def T158:TfQ [[4,5],[9,10,11],[12],[0,1,6,13,14],[6,13,15,16],[17,18],[0,7,19,20,21,22,23,24,25],[8,26,27],[0,1,19,28,29]] Tryz.f158:=⟨_,by conv=>lhs;cbv⟩
theorem c158:Cert 158 T158.1:=cert_of T158.2 Tryz.func158
def T159:TfQ [[4,5],[10,11,12],[13],[0,1,6,14,15],[6,14,16,17,18,19,20,21,22],[1],[],[26,27,28,29],[8,9,30,31,32,33,34,35],[36],[0,7,23,24,25,26,37,38,39,40]] Tryz.f159:=⟨_,by conv=>lhs;cbv⟩
theorem c159:Cert 159 T159.1:=cert_of T159.2 Tryz.func159
def T160:TfQ [[4],[0,6,7],[8],[1,5,9,10],[1,5,9,11,12]] Tryz.f160:=⟨_,by conv=>lhs;cbv⟩
theorem c160:Cert 160 T160.1:=cert_of T160.2 Tryz.func160
def T161:TfQ [[4],[6,7,8,9],[0,1,10,11,12,13,14,15,16,17],[10,18,19,20],[21],[23,24,35],[22,26,27,28,29,30,31,32,33,34],[0,1,5,25],[25,36,37,38,39,40,41,42,43,44],[0,1,5,35],[0,1,5,22]] Tryz.f161:=⟨_,by conv=>lhs;cbv⟩
theorem c161:Cert 161 T161.1:=cert_of T161.2 Tryz.func161
def T162:TfQ [[2],[4,5],[6,7,8,9,10,11,12,13,14],[15,16,17],[0,3,15,18,19,20,21]] Tryz.f162:=⟨_,by conv=>lhs;cbv⟩
theorem c162:Cert 162 T162.1:=cert_of T162.2 Tryz.func162
def T163:TfQ [[4],[0,6,7],[8],[1,5,9,10],[1,5,9,11,12]] Tryz.f163:=⟨_,by conv=>lhs;cbv⟩
theorem c163:Cert 163 T163.1:=cert_of T163.2 Tryz.func163
def T164:TfQ [[4,5],[14,15,16],[17],[0,1,6,18,19],[0,1,6,18,20,21,22,23],[24,25,26,27,28,29,30],[31,32,33,34,35,36,37,38,39,40,41],[42,43,44,64],[46,47,48,49],[10,11,45,50,51,52,53],[54,55],[10,45,57],[11,56,58,59],[11,56,61],[60,62,63],[60,65,66,67],[64,68,69,70],[7,8,31,71,72,73],[],[74,75],[77,78],[76,79,80,81],[9,12,13,76,82]] Tryz.f164:=⟨_,by conv=>lhs;cbv⟩
theorem c164:Cert 164 T164.1:=cert_of T164.2 Tryz.func164
end
end Go.Proofs.YtigdhgbkgfagiaaGreat
