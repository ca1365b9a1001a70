/- Sheets: a column's marked boxes, handed out, walked. -/
import Derived.Test.YtigdhgbkgfagiaaGreatVM2
import Derived.Test.YtigdhgbkgfagiaaGreatVP3
set_option maxRecDepth 100000
set_option maxHeartbeats 4000000
set_option linter.unusedVariables false
set_option linter.unusedSimpArgs false
namespace Go.Proofs.YtigdhgbkgfagiaaGreat
section
variable {L:Lib} {i:AI} {l:List AI} {rs:List Rec} {ms:List Nat} {K:Env→Heap→Prop} {E:Env} {H:Heap} {d:Option Nat} {anc:List Nat}
end
def colT (r:List Int):Heap:=if r=[] then [] else [some (.arr 1 (r.map mrow))]
def colH (rd:List V) (col:Int) (LP:Blk) (r:List Int):Heap:=some (.arr 9 [rd])::some (.arr 1 [[.ptr 0 9 0 0]])::some (.arr 1 [[.int .i64 col]])::some (.arr 1 [[accV 5 1 r]])::some LP::colT r
def colL (M:List Bool) (w col:Nat):Nat→List Int
 | 0=>[]
 | j+1=>colL M w col j++(if M[j*w+col]?.getD false then [(j:Int)] else [])
theorem blk_ren {rd:List V} (h:rd.all V.closed=true) {n:Nat} {σ:Nat→Sg}:Blk.ren σ (.arr n [rd])=.arr n [rd]:=by
 show Blk.arr n [rd.map (V.ren σ)]=_
 rw [ren_row h]
theorem AFn.cast {L:Lib} {k:Tgt} {vs:List V} {H H':Heap} {P:V→Heap→Prop} (h:AFn L k vs H P) (e:H=H'):AFn L k vs H' P:=e ▸ h
structure RoundOk (L:Lib) (rd:List V) (col:Int) (LP:Blk):Prop where
 h0:∀x:Int,AFn L (.yl 4) [.int .i64 x] (colH rd col LP []) (fun v H'=>v=.bool true∧H'=[some (.arr 9 [rd]),some (.arr 1 [[.ptr 0 9 0 0]]),some (.arr 1 [[.int .i64 col]]),some (.arr 1 [[.ref 6 1 0 1 none]]),some LP,some (.arr 1 [[.int .i64 x]]),some (.arr 1 [[.int .i64 x]])])
 h1:∀(r:List Int) (x:Int),r≠[]→r.length≤1000→AFn L (.yl 4) [.int .i64 x] (colH rd col LP r) (fun v H'=>v=.bool true∧H'=[some (.arr 9 [rd]),some (.arr 1 [[.ptr 0 9 0 0]]),some (.arr 1 [[.int .i64 col]]),some (.arr 1 [[.ref 7 1 0 (r.length+1) none]]),some LP,none,some (.arr 1 [[.int .i64 x]]),some (.arr 1 ((r++[x]).map mrow))])
 ren:∀σ:Nat→Sg,(∀a,a < 5→σ a=.to a)→LP.ren σ=LP
variable {L:Lib} (hL:L.T=tab.get)
include hL
end Go.Proofs.YtigdhgbkgfagiaaGreat
