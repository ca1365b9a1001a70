/- The functions in the abstract language, worked out by Lean. -/
import Derived.Test.YtigdhgbkgfagiaaGreatVQ1
set_option linter.unusedVariables false
set_option maxHeartbeats 1000000
set_option maxRecDepth 100000
namespace Go.Proofs.YtigdhgbkgfagiaaGreat
noncomputable section
def T219:TfQ [[4],[9,10],[11,12,13,14,15,16,17,18,19,20,21,22,23],[6,24,25,26,27,28,29,30,31,32,33,34,35,36,37,38,39],[40,41,42,43,44,45,46,47,48,49,50,51,52,53,54,55,56,57,58,59,60,61,75],[62,63,64],[65,66,67,68,69,70,71,72],[73,74],[0,1,5,7,8,62,75,76]] Tryz.f219:=⟨_,by conv=>lhs;cbv⟩
theorem c219:Cert 219 T219.1:=cert_of T219.2 Tryz.func219
def T220:TfQ [[6],[],[],[],[14,15,16,17],[10,18,19,20,21,22,23],[9,24,25,26,27,28,29,30,31,32,33,34,35,36,37],[38,39],[40],[0,1,2,7,11,12,13,14,41,42,43,44,45,46,47,48,49,50,51,52,53,54,55,56],[8,57,58]] Tryz.f220:=⟨_,by conv=>lhs;cbv⟩
theorem c220:Cert 220 T220.1:=cert_of T220.2 Tryz.func220
def T221:TfQ [[],[],[],[10,11,12,13],[5,6,14,15,16,17,18,19,20,21,22,23,24,25,26],[27],[0,1,4,7,8,9,10,28,29,30,31,32,33,34,35]] Tryz.f221:=⟨_,by conv=>lhs;cbv⟩
theorem c221:Cert 221 T221.1:=cert_of T221.2 Tryz.func221
def T222:TfQ [[5,6,7],[],[10,11],[4,12,13,14,15,16,17,18,19,20,21,22,23,24,25,26,27,28,29,30],[31,32]] Tryz.f222:=⟨_,by conv=>lhs;cbv⟩
theorem c222:Cert 222 T222.1:=cert_of T222.2 Tryz.func222
def T223:TfQ [[4],[6],[],[9,10],[11,12,13,14,15],[0,1,5,7,8,16,17],[5,16,18],[0,1,7,8,9]] Tryz.f223:=⟨_,by conv=>lhs;cbv⟩
theorem c223:Cert 223 T223.1:=cert_of T223.2 Tryz.func223
def T224:TfQ [[0,4],[1],[6,7],[2,5,8,9,10,11],[2,6,12]] Tryz.f224:=⟨_,by conv=>lhs;cbv⟩
theorem c224:Cert 224 T224.1:=cert_of T224.2 Tryz.func224
def T225:TfQ [[],[3],[2,4,5,6],[],[4,7],[8,9,10],[11,12],[0,8,13,14,15,16,17,18]] Tryz.f225:=⟨_,by conv=>lhs;cbv⟩
theorem c225:Cert 225 T225.1:=cert_of T225.2 Tryz.func225
def T226:TfQ [[6,7],[2,8,9,10,11,12],[0,1,13,14,15,16,17,18,19,20,21,22,23,24]] Tryz.f226:=⟨_,by conv=>lhs;cbv⟩
theorem c226:Cert 226 T226.1:=cert_of T226.2 Tryz.func226
def T227:TfQ [[6,7],[0,1,2,9,10,11,12,13,14,15,16],[17,18],[8,19,20,21]] Tryz.f227:=⟨_,by conv=>lhs;cbv⟩
theorem c227:Cert 227 T227.1:=cert_of T227.2 Tryz.func227
end
end Go.Proofs.YtigdhgbkgfagiaaGreat
