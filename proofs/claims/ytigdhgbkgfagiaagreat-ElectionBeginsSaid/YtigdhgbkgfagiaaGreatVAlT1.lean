/- The functions in the abstract language, worked out by Lean. -/
import Derived.Test.YtigdhgbkgfagiaaGreatVQ1
set_option linter.unusedVariables false
set_option maxHeartbeats 1000000
set_option maxRecDepth 100000
namespace Go.Proofs.YtigdhgbkgfagiaaGreat
noncomputable section
def T57:TfQ [[0,1,4],[],[7],[8],[11],[2,3,5,6,9,10,12,13,14],[10,16],[2,3,5,6,9,15,17,18,19],[5,15,21],[2,3,6,9,20,22,23,24,25,26,27,28,29,30,31,32,33],[20,35],[2,3,6,9,34,36,37,38,39,40,41,42,43,44,45,46,47],[34,49],[2,3,6,9,48,50,51,52],[3,9,48,54],[2,6,53,55,56,57],[2,6,53]] Tryz.f57:=⟨_,by conv=>lhs;cbv⟩
theorem c57:Cert 57 T57.1:=cert_of T57.2 Tryz.func57
def T58:TfQ [[0,1,2,7],[11,12,13,14,15],[16],[19],[3,8,17,18,20,21,22,23,24,25,26,27,28,29,30,31,32,33,34,35,36,37,38,39,40,41,42,43,44,45,46,47],[4,5,48,49],[5,48,50,51,52,53,54,55,56,57,58,59],[4,60],[18,62],[3,5,8,17,61,63,64],[4,65,66],[65,67],[4,68],[61,70],[3,5,17,69,71,72,73,74,75,76,77,78,79,80,81,82,83,84,85],[4,8,86,87],[8,86,88,89,90,91,92],[4,93],[69,95],[3,5,17,94,96,97,98,99,100,101,102,103,104,105,106,107,108,109,110],[4,8,111,112],[8,111,113,114,115,116,117],[4,118],[8,94,120],[3,4,5,17,119,121,122,123,124,125,126,127],[9,10,128,129],[3,5,17,119,131],[130,132,133,134,135,136,137,138],[4,139,140],[139,141],[4,142],[4,130,143]] Tryz.f58:=FN _ Tryz.f58 144 3 [.cell 6 5 false,.t 7] (PC.seq ⟨_,by conv=>lhs;cbv⟩ (PC.seq ⟨_,by conv=>lhs;cbv⟩ (PC.seq (PC.seq ⟨_,by conv=>lhs;cbv⟩ (PC.block 0 (PC.seq ⟨_,by conv=>lhs;cbv⟩ (PC.cond (.t 18) ⟨_,by conv=>lhs;cbv⟩ (PC.seq ⟨_,by conv=>lhs;cbv⟩ (PC.cond (.t 61) ⟨_,by conv=>lhs;cbv⟩ (PC.seq ⟨_,by conv=>lhs;cbv⟩ (PC.cond (.t 69) ⟨_,by conv=>lhs;cbv⟩ (PC.seq ⟨_,by conv=>lhs;cbv⟩ (PC.cond (.t 94) ⟨_,by conv=>lhs;cbv⟩ ⟨_,by conv=>lhs;cbv⟩)))))))))) ⟨_,by conv=>lhs;cbv⟩)))
theorem c58:Cert 58 T58.1:=cert_of T58.2 Tryz.func58
def T59:TfQ [[0,1,4],[2,3,5,6,7,8,9,10,11,12,13,14,15,16]] Tryz.f59:=⟨_,by conv=>lhs;cbv⟩
theorem c59:Cert 59 T59.1:=cert_of T59.2 Tryz.func59
def T60:TfQ [[],[2,3,4,5,6],[1,7,8,9,10,11,12,13]] Tryz.f60:=⟨_,by conv=>lhs;cbv⟩
theorem c60:Cert 60 T60.1:=cert_of T60.2 Tryz.func60
def T61:TfQ [[0],[2,3],[1,4,5,6,7,8,9,10,11,12]] Tryz.f61:=⟨_,by conv=>lhs;cbv⟩
theorem c61:Cert 61 T61.1:=cert_of T61.2 Tryz.func61
def T62:TfQ [[2],[0,3,4,5,6,7,8,9,10]] Tryz.f62:=⟨_,by conv=>lhs;cbv⟩
theorem c62:Cert 62 T62.1:=cert_of T62.2 Tryz.func62
def T63:TfQ [[0,2],[1,3,4,5,6]] Tryz.f63:=⟨_,by conv=>lhs;cbv⟩
theorem c63:Cert 63 T63.1:=cert_of T63.2 Tryz.func63
def T64:TfQ [[0,2],[3,4,5],[1,6],[1,6,7,8,9,10,11,12,13,14,15,16,17,18,19,20,21,22,23,24,25,26,27,28,29,30],[31],[31]] Tryz.f64:=⟨_,by conv=>lhs;cbv⟩
theorem c64:Cert 64 T64.1:=cert_of T64.2 Tryz.func64
def T65:TfQ [[0,2],[1,3,4,5,6,7,8,9,10,11,12,13,14,15,16,17,18,19,20]] Tryz.f65:=⟨_,by conv=>lhs;cbv⟩
theorem c65:Cert 65 T65.1:=cert_of T65.2 Tryz.func65
def T66:TfQ [[0,1,4,5],[14,15,16,17,18,19,20],[2,3,21],[2,3,21,22,23,24,25,26,27,28],[29,30,31,32,33,34],[6,7,8,35,36,37,38,39,40],[6,8,35,41,42,43,44,45,46],[47],[7,9,10,11,48,49],[9,10,11,13,48,50,51,52,53,54,55],[7,12,56,57,58]] Tryz.f66:=⟨_,by conv=>lhs;cbv⟩
theorem c66:Cert 66 T66.1:=cert_of T66.2 Tryz.func66
def T67:TfQ [[],[0,3,4,5,6,7,8,9]] Tryz.f67:=⟨_,by conv=>lhs;cbv⟩
theorem c67:Cert 67 T67.1:=cert_of T67.2 Tryz.func67
def T68:TfQ [[2],[0,3,4,5,6,7,8]] Tryz.f68:=⟨_,by conv=>lhs;cbv⟩
theorem c68:Cert 68 T68.1:=cert_of T68.2 Tryz.func68
def T69:TfQ [[0,2],[5,6,7,8,9,10,11,12,13,14,15,16,17,18,19,20,21,22,23,24,25,26,27,28,29,30,31,32,33,34,35],[1,36],[36],[37,38,39,40],[4,42,43,53],[41,44,45,46,47,48,49],[1,3,50],[50],[51,52],[54,55,66],[53,56,57,58,59,60,61,62,63,64,65],[1,3,4,66],[3,41,67,68],[1,69,70,71,72],[1,69,73,74,75,76,77,78,79,80,81,82,83]] Tryz.f69:=⟨_,by conv=>lhs;cbv⟩
theorem c69:Cert 69 T69.1:=cert_of T69.2 Tryz.func69
def T70:TfQ [[0,2],[1,3,4,5,6,7,8,9,10,11,12,13,14,15,16,17,18,19,20,21,22,23,24,25,26,27]] Tryz.f70:=⟨_,by conv=>lhs;cbv⟩
theorem c70:Cert 70 T70.1:=cert_of T70.2 Tryz.func70
def T71:TfQ [[0,2],[1,3,4,5,6,7,8,9,10,11,12,13,14,15,16,17,18,19,20,21,22]] Tryz.f71:=⟨_,by conv=>lhs;cbv⟩
theorem c71:Cert 71 T71.1:=cert_of T71.2 Tryz.func71
def T72:TfQ [[0,1,4,5],[12,13,14],[2,3,15],[15,16,17,18,19],[2,3,20],[20,21,22,23,24],[2,3,25],[25,26,27],[2,3,28],[28,29,30,31,32,33,34,35,36],[3,37,38,39,40,41,42,43,44],[7,9,45,46,47,48,49],[2,6,8,50],[6,8,11,50,51,52,53,54,55,56],[2,10,57,58,59,60]] Tryz.f72:=⟨_,by conv=>lhs;cbv⟩
theorem c72:Cert 72 T72.1:=cert_of T72.2 Tryz.func72
def T73:TfQ [[],[0,4,5,6,7,8,9],[3,10]] Tryz.f73:=⟨_,by conv=>lhs;cbv⟩
theorem c73:Cert 73 T73.1:=cert_of T73.2 Tryz.func73
def T74:TfQ [[4],[6],[],[9,10],[11,12,13,14,15],[0,1,5,7,8,16,17],[5,16,18],[0,1,7,8,9]] Tryz.f74:=⟨_,by conv=>lhs;cbv⟩
theorem c74:Cert 74 T74.1:=cert_of T74.2 Tryz.func74
def T75:TfQ [[4],[6],[],[9,10],[11,12,13,14,15],[0,1,5,7,8,16,17],[5,16,18],[0,1,7,8,9]] Tryz.f75:=⟨_,by conv=>lhs;cbv⟩
theorem c75:Cert 75 T75.1:=cert_of T75.2 Tryz.func75
def T76:TfQ [[4,5],[6,7,8,9,10,11,12,13,14,15,16],[0,1,17],[0,1,17,18,19,20,21,22,23,24,25]] Tryz.f76:=⟨_,by conv=>lhs;cbv⟩
theorem c76:Cert 76 T76.1:=cert_of T76.2 Tryz.func76
def T77:TfQ [[2],[0,3,4,5,6,7,8]] Tryz.f77:=⟨_,by conv=>lhs;cbv⟩
theorem c77:Cert 77 T77.1:=cert_of T77.2 Tryz.func77
def T78:TfQ [[2],[3],[0,4],[0,4,5,6,7]] Tryz.f78:=⟨_,by conv=>lhs;cbv⟩
theorem c78:Cert 78 T78.1:=cert_of T78.2 Tryz.func78
def T79:TfQ [[2],[3],[0,4],[0,4,5,6,7]] Tryz.f79:=⟨_,by conv=>lhs;cbv⟩
theorem c79:Cert 79 T79.1:=cert_of T79.2 Tryz.func79
def T80:TfQ [[2],[3],[0,4],[0,4,5,6,7]] Tryz.f80:=⟨_,by conv=>lhs;cbv⟩
theorem c80:Cert 80 T80.1:=cert_of T80.2 Tryz.func80
def T81:TfQ [[2],[3],[0,4],[0,4,5,6,7]] Tryz.f81:=⟨_,by conv=>lhs;cbv⟩
theorem c81:Cert 81 T81.1:=cert_of T81.2 Tryz.func81
def T82:TfQ [[0],[3,4,5,6],[1,7]] Tryz.f82:=⟨_,by conv=>lhs;cbv⟩
theorem c82:Cert 82 T82.1:=cert_of T82.2 Tryz.func82
def T83:TfQ [[2],[3],[0,4],[0,4,5,6,7]] Tryz.f83:=⟨_,by conv=>lhs;cbv⟩
theorem c83:Cert 83 T83.1:=cert_of T83.2 Tryz.func83
def T84:TfQ [[2],[3],[0,4],[0,4,5,6,7]] Tryz.f84:=⟨_,by conv=>lhs;cbv⟩
theorem c84:Cert 84 T84.1:=cert_of T84.2 Tryz.func84
def T85:TfQ [[2],[0,5,6],[7],[],[10,11],[4,12,13,14,15,16,17,18,19],[20],[3,8,9,10,21]] Tryz.f85:=⟨_,by conv=>lhs;cbv⟩
theorem c85:Cert 85 T85.1:=cert_of T85.2 Tryz.func85
def T86:TfQ [[0],[1,3,4,5,6,7,8]] Tryz.f86:=⟨_,by conv=>lhs;cbv⟩
theorem c86:Cert 86 T86.1:=cert_of T86.2 Tryz.func86
def T87:TfQ [[0,1,4],[6,7,8,9,10,11,12,13,14,15,16,17,18,19,20,21,22,23,24,25,26,27,28,29,30,31,32],[2,3,33],[33],[34,35,36,37],[39,40,51],[38,41,42,43,44,45,46,47,48,49,50],[2,3,5,51],[2,3,5,38]] Tryz.f87:=⟨_,by conv=>lhs;cbv⟩
theorem c87:Cert 87 T87.1:=cert_of T87.2 Tryz.func87
def T88:TfQ [[0,1,4],[2,3,5,6,7,8,9,10,11,12,13,14,15,16,17,18,19,20,21,22,23]] Tryz.f88:=⟨_,by conv=>lhs;cbv⟩
theorem c88:Cert 88 T88.1:=cert_of T88.2 Tryz.func88
def T89:TfQ [[4],[6,7,8,9],[0,1,10],[10],[11,12,13],[15,16,70],[14,17,18,19,20,21,22,23,24,25,26,27,28,29,30,31,32,33,34,35,36,37,38,39,40,41,42,43,44,45,46,47,48,49,50,51,52,53,54,55,56,57,58,59,60,61,62,63,64,65,66,67,68,69],[0,1,5,70],[0,1,5,14]] Tryz.f89:=⟨_,by conv=>lhs;cbv⟩
theorem c89:Cert 89 T89.1:=cert_of T89.2 Tryz.func89
def T90:TfQ [[4],[6,7,8,9],[0,1,10],[10],[11,12,13],[15,16,41],[14,17,18,19,20,21,22,23,24,25,26,27,28,29,30,31,32,33,34,35,36,37,38,39,40],[0,1,5,41],[0,1,5,14]] Tryz.f90:=⟨_,by conv=>lhs;cbv⟩
theorem c90:Cert 90 T90.1:=cert_of T90.2 Tryz.func90
def T91:TfQ [[0,1,4],[2,3,5,6,7,8,9,10,11,12,13,14,15,16,17,18]] Tryz.f91:=⟨_,by conv=>lhs;cbv⟩
theorem c91:Cert 91 T91.1:=cert_of T91.2 Tryz.func91
def T92:TfQ [[0,1,4],[2,3,5,6,7,8,9,10,11,12,13,14,15,16,17,18,19,20,21,22,23,24,25,26,27,28,29,30]] Tryz.f92:=⟨_,by conv=>lhs;cbv⟩
theorem c92:Cert 92 T92.1:=cert_of T92.2 Tryz.func92
def T93:TfQ [[0,1,4],[2,3,5,6,7,8,9,10,11,12,13,14,15,16,17,18,19,20,21,22,23]] Tryz.f93:=⟨_,by conv=>lhs;cbv⟩
theorem c93:Cert 93 T93.1:=cert_of T93.2 Tryz.func93
def T94:TfQ [[6],[10,11,12,13],[0,1,2,14],[0,14],[],[18,19,20,21],[7,22,23,24,25],[8,9,26,27,28,29],[1,2,15,16,17,30],[30,31],[1,2,15,16,17,18]] Tryz.f94:=⟨_,by conv=>lhs;cbv⟩
theorem c94:Cert 94 T94.1:=cert_of T94.2 Tryz.func94
def T95:TfQ [[0,1,4],[2,3,5,6,7,8,9,10,11,12,13,14,15,16]] Tryz.f95:=⟨_,by conv=>lhs;cbv⟩
theorem c95:Cert 95 T95.1:=cert_of T95.2 Tryz.func95
def T96:TfQ [[6],[10,11,12,13],[0,1,2,14],[0,14],[],[18,19,20,21],[7,22,23,24,25],[8,9,26,27,28,29],[1,2,15,16,17,30],[30,31],[1,2,15,16,17,18]] Tryz.f96:=⟨_,by conv=>lhs;cbv⟩
theorem c96:Cert 96 T96.1:=cert_of T96.2 Tryz.func96
def T97:TfQ [[0,1,4],[2,3,5,6,7,8,9,10,11,12,13,14,15,16]] Tryz.f97:=⟨_,by conv=>lhs;cbv⟩
theorem c97:Cert 97 T97.1:=cert_of T97.2 Tryz.func97
def T98:TfQ [[0,1,4],[2,3,5,6,7,8,9,10,11,12,13,14,15,16,17,18,19,20,21,22,23,24,25,26,27,28,29,30]] Tryz.f98:=⟨_,by conv=>lhs;cbv⟩
theorem c98:Cert 98 T98.1:=cert_of T98.2 Tryz.func98
def T99:TfQ [[6],[10,11,12,13],[0,1,2,14],[0,14],[],[18,19,20,21],[7,22,23,24,25],[8,9,26,27,28,29],[1,2,15,16,17,30],[30,31],[1,2,15,16,17,18]] Tryz.f99:=⟨_,by conv=>lhs;cbv⟩
theorem c99:Cert 99 T99.1:=cert_of T99.2 Tryz.func99
def T100:TfQ [[0,1,4],[2,3,5,6,7,8,9,10,11,12,13,14,15,16]] Tryz.f100:=⟨_,by conv=>lhs;cbv⟩
theorem c100:Cert 100 T100.1:=cert_of T100.2 Tryz.func100
def T101:TfQ [[6],[10,11,12,13],[0,1,2,14],[0,14],[],[18,19,20,21],[7,22,23,24,25],[8,9,26,27,28,29],[1,2,15,16,17,30],[30,31],[1,2,15,16,17,18]] Tryz.f101:=⟨_,by conv=>lhs;cbv⟩
theorem c101:Cert 101 T101.1:=cert_of T101.2 Tryz.func101
def T102:TfQ [[6],[10,11,12,13],[0,1,2,14],[0,14],[],[18,19,20,21],[7,22,23,24,25],[8,9,26,27,28,29],[1,2,15,16,17,30],[30,31],[1,2,15,16,17,18]] Tryz.f102:=⟨_,by conv=>lhs;cbv⟩
theorem c102:Cert 102 T102.1:=cert_of T102.2 Tryz.func102
def T103:TfQ [[6],[10,11,12,13],[0,1,2,14],[0,14],[],[18,19,20,21],[7,22,23,24,25],[8,9,26,27,28,29],[1,2,15,16,17,30],[30,31],[1,2,15,16,17,18]] Tryz.f103:=⟨_,by conv=>lhs;cbv⟩
theorem c103:Cert 103 T103.1:=cert_of T103.2 Tryz.func103
def T104:TfQ [[0,1,4],[2,3,5,6,7,8,9,10,11,12,13,14,15,16]] Tryz.f104:=⟨_,by conv=>lhs;cbv⟩
theorem c104:Cert 104 T104.1:=cert_of T104.2 Tryz.func104
def T105:TfQ [[4],[0,1,5,6,7,8,9]] Tryz.f105:=⟨_,by conv=>lhs;cbv⟩
theorem c105:Cert 105 T105.1:=cert_of T105.2 Tryz.func105
def T106:TfQ [[0],[]] Tryz.f106:=⟨_,by conv=>lhs;cbv⟩
theorem c106:Cert 106 T106.1:=cert_of T106.2 Tryz.func106
def T107:TfQ [[1],[0,2,3,4,5,6,7]] Tryz.f107:=⟨_,by conv=>lhs;cbv⟩
theorem c107:Cert 107 T107.1:=cert_of T107.2 Tryz.func107
def T108:TfQ [[1,4],[5,6,7,8,9,10,11,12,13,14,15,16,17,18,19,20,21,22,23,24,25,26,27,28,29,30,31,32,33,34,35,36,37,38,39,40,41],[0,3,42],[0,3,42,43,44,45,46,47,48,49,50,51,52,53,54,55,56,57,58],[]] Tryz.f108:=⟨_,by conv=>lhs;cbv⟩
theorem c108:Cert 108 T108.1:=cert_of T108.2 Tryz.func108
def T109:TfQ [[6],[1,2,7,8,9,10,11,12,13,14,15,16],[0,17],[0,17,18,19,20,21,22,23,24],[]] Tryz.f109:=⟨_,by conv=>lhs;cbv⟩
theorem c109:Cert 109 T109.1:=cert_of T109.2 Tryz.func109
def T110:TfQ [[8],[0,9,10,11,12,13,14,15,16,17,18],[1,2,3,19],[2,19,20,21],[1,3,22,23],[]] Tryz.f110:=⟨_,by conv=>lhs;cbv⟩
theorem c110:Cert 110 T110.1:=cert_of T110.2 Tryz.func110
end
end Go.Proofs.YtigdhgbkgfagiaaGreat
