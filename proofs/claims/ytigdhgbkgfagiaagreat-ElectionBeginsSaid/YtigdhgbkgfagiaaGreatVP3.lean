/- Begin, by the program, walked. · Sheets: Boxes, Check, Most, wide, by the program, walked. -/
import Derived.Test.YtigdhgbkgfagiaaGreatVM2
import Derived.Test.YtigdhgbkgfagiaaGreatVP2
import Derived.Test.YtigdhgbkgfagiaaGreatVRl
set_option maxRecDepth 100000
set_option maxHeartbeats 4000000
set_option linter.unusedVariables false
set_option linter.unusedSimpArgs false
namespace Go.Proofs.YtigdhgbkgfagiaaGreat
def nilV:V:=.lst 0 [] (some 0)
variable {L:Lib} (hL:L.T=tab.get)
include hL
end Go.Proofs.YtigdhgbkgfagiaaGreat
namespace Go.Proofs.YtigdhgbkgfagiaaGreat
def urow (x:Int):List V:=[.int .u8 x]
variable {L:Lib} (hL:L.T=tab.get)
include hL
end Go.Proofs.YtigdhgbkgfagiaaGreat
