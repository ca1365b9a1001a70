/- Sheets: Read, by the program, walked. -/
import Derived.Test.YtigdhgbkgfagiaaGreatVM2
import Derived.Test.YtigdhgbkgfagiaaGreatVP5
set_option maxRecDepth 100000
set_option maxHeartbeats 4000000
set_option linter.unusedVariables false
set_option linter.unusedSimpArgs false
namespace Go.Proofs.YtigdhgbkgfagiaaGreat
structure Rg where
 kind:Int
 ms:List Int
 over:Nat
 db:List Int
def decL:List (Int×Bool)→List Bool→List Bool→Option (List Bool×List Bool)
 | [],M,D=>some (M,D)
 | d::r,M,D=>if d.1 < 0∨(D.length:Int)≤d.1 then none else if D[d.1.toNat]?.getD false=true then decL r (M.set d.1.toNat d.2) (D.set d.1.toNat false) else none
def badP (lo hi skips:Int):Prop:=lo < 1∨hi < lo∨100 < hi∨skips < 0∨10 < skips
instance {lo hi skips:Int}:Decidable (badP lo hi skips):=by unfold badP;infer_instance
section
variable {L:Lib} {l:List AI} {rs:List Rec} {ms:List Nat} {K:Env→Heap→Prop} {E:Env} {H:Heap} {d:Option Nat} {anc:List Nat} {α:Type} {f:α→List V} {n:Nat} {t:List α} {c:Option Nat}
end
structure DecI (ds:List (Int×Bool)) (m:Nat) (res:Option (List Bool×List Bool)) (s:Nat×List Bool×List Bool):Prop where
 j:s.1≤ds.length
 lm:s.2.1.length=m
 ld:s.2.2.length=m
 res:decL (ds.drop s.1) s.2.1 s.2.2=res
variable {L:Lib} (hL:L.T=tab.get)
include hL
end Go.Proofs.YtigdhgbkgfagiaaGreat
