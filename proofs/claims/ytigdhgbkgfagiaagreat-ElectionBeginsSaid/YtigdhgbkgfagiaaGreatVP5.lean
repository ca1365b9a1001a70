/- Sheets: a column's marked boxes, handed out while marks have been read, walked. (The text of the iterator, with one more block.) · Sheets: ranks, by the program, walked. -/
import Derived.Test.YtigdhgbkgfagiaaGreatVM2
import Derived.Test.YtigdhgbkgfagiaaGreatVP4
set_option maxRecDepth 100000
set_option maxHeartbeats 4000000
set_option linter.unusedVariables false
set_option linter.unusedSimpArgs false
namespace Go.Proofs.YtigdhgbkgfagiaaGreat
def colHB (rd:List V) (col:Int) (MB:List Int) (LP:Blk) (r:List Int):Heap:=some (.arr 9 [rd])::some (.arr 1 [[.ptr 0 9 0 0]])::some (.arr 1 [[.int .i64 col]])::some (.arr 1 [[accV 6 1 r]])::some (.arr 1 (MB.map mrow))::some LP::colT r
structure RoundOkB (L:Lib) (rd:List V) (col:Int) (MB:List Int) (LP:Blk):Prop where
 h0:∀x:Int,AFn L (.yl 5) [.int .i64 x] (colHB rd col MB LP []) (fun v H'=>v=.bool true∧H'=[some (.arr 9 [rd]),some (.arr 1 [[.ptr 0 9 0 0]]),some (.arr 1 [[.int .i64 col]]),some (.arr 1 [[.ref 7 1 0 1 none]]),some (.arr 1 (MB.map mrow)),some LP,some (.arr 1 [[.int .i64 x]]),some (.arr 1 [[.int .i64 x]])])
 h1:∀(r:List Int) (x:Int),r≠[]→r.length≤1000→AFn L (.yl 5) [.int .i64 x] (colHB rd col MB LP r) (fun v H'=>v=.bool true∧H'=[some (.arr 9 [rd]),some (.arr 1 [[.ptr 0 9 0 0]]),some (.arr 1 [[.int .i64 col]]),some (.arr 1 [[.ref 8 1 0 (r.length+1) none]]),some (.arr 1 (MB.map mrow)),some LP,none,some (.arr 1 [[.int .i64 x]]),some (.arr 1 ((r++[x]).map mrow))])
 ren:∀σ:Nat→Sg,(∀a,a < 6→σ a=.to a)→LP.ren σ=LP
variable {L:Lib} (hL:L.T=tab.get)
include hL
end Go.Proofs.YtigdhgbkgfagiaaGreat
namespace Go.Proofs.YtigdhgbkgfagiaaGreat
section
variable {L:Lib} {i:AI} {l:List AI} {rs:List Rec} {ms:List Nat} {K:Env→Heap→Prop} {E:Env} {H:Heap}
end
def rkL (M:List Bool) (n w:Nat) (skips:Int):Nat→Nat→Nat→List Int→List Int×Bool
 | 0,_,_,ms=>(ms,false)
 | k+1,j,sk,ms=>
  match colL M w j n with
  | []=>if ((sk+1:Nat):Int)=skips then (ms,false) else rkL M n w skips k (j+1) (sk+1) ms
  | [x]=>rkL M n w skips k (j+1) 0 (if x∈ms then ms else ms++[x])
  | _=>(ms,true)
structure RkI (M:List Bool) (n w:Nat) (skips:Int) (res:List Int×Bool) (s:Nat×Nat×List Int):Prop where
 j:s.1≤w
 sk:s.2.1≤s.1
 ms:s.2.2.length≤s.1
 res:rkL M n w skips (w - s.1) s.1 s.2.1 s.2.2=res
variable {L:Lib} (hL:L.T=tab.get)
include hL
end Go.Proofs.YtigdhgbkgfagiaaGreat
