/- The model of an election: Play, walked. -/
import Derived.Test.YtigdhgbkgfagiaaGreatVM2
import Derived.Test.YtigdhgbkgfagiaaGreatVP8
set_option maxRecDepth 100000
set_option maxHeartbeats 4000000
set_option linter.unusedVariables false
set_option linter.unusedSimpArgs false
namespace Go.Proofs.YtigdhgbkgfagiaaGreat
theorem cells_mapp {a:Nat}:V.cells (.mapp a)=[.mapp a]:=rfl
theorem isVal_mapp {a:Nat}:V.isVal (.mapp a)=true:=rfl
theorem ren_bl {σ:Nat→Sg} {b:Bool}:V.ren σ (.bool b)=.bool b:=rfl
attribute [push_cast] cells_mapp isVal_mapp ren_bl
variable {L:Lib} (hL:L.T=tab.get)
include hL
end Go.Proofs.YtigdhgbkgfagiaaGreat
