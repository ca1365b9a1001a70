/- The model of an election: voters enrolled, moved, the phases turned, walked. -/
import Derived.Test.YtigdhgbkgfagiaaGreatVM2
import Derived.Test.YtigdhgbkgfagiaaGreatVP7
import Derived.Test.YtigdhgbkgfagiaaGreatVP3
set_option maxRecDepth 100000
set_option maxHeartbeats 4000000
set_option linter.unusedVariables false
set_option linter.unusedSimpArgs false
namespace Go.Proofs.YtigdhgbkgfagiaaGreat
def balrow (b:Int×Nl Int):List V:=[.int .u8 b.1,nlv mrow 1 b.2]
structure Hb where
 name:List UInt8
 bals:Nl (Int×Nl Int)
def hbrow (b:Hb):List V:=[.str b.name,nlv balrow 2 b.bals]
structure Dd where
 kind:Nat
 name:List UInt8
 prec:Int
 batch:List UInt8
 boxes:Nl Int
 decs:Nl (Int×Bool)
 seeds:Nl (Nl UInt8)
 hand:Nl Hb
structure okDd (d:Dd):Prop where
 name:d.name.length < 4611686018427387904
 batch:d.batch.length < 4611686018427387904
 boxes:d.boxes.l.length < 4611686018427387904
 decs:d.decs.l.length < 4611686018427387904
structure Ms where
 ph:Int
 en:Mp Bool
 fr:Mp Bool
 ho:Mp Bool
 ba:Mp Int
 vs:List (Int×List Int)
structure MsOk (s:Ms):Prop where
 ph:0≤s.ph∧s.ph≤2
 en:MpOk s.en
 fr:MpOk s.fr
 ho:MpOk s.ho
 ba:MpOk s.ba
section
variable {L:Lib} {l:List AI} {rs:List Rec} {ms:List Nat} {K:Env→Heap→Prop} {E:Env} {H:Heap} {d:Option Nat} {anc:List Nat} {a:Nat} {k:List UInt8} {m:Mp Bool}
end
variable {L:Lib} (hL:L.T=tab.get)
include hL
end Go.Proofs.YtigdhgbkgfagiaaGreat
