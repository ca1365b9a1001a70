/- The model of an election: its sets of voters as maps, names, walked. -/
import Derived.Test.YtigdhgbkgfagiaaGreatVM2
import Derived.Test.YtigdhgbkgfagiaaGreatVP6
set_option maxRecDepth 100000
set_option maxHeartbeats 4000000
set_option linter.unusedVariables false
set_option linter.unusedSimpArgs false
namespace Go.Proofs.YtigdhgbkgfagiaaGreat
structure Mp (β:Type) where
 es:List (List UInt8×β)
 bs:List Nat
 clk:Nat
def idxS {β:Type} (k:List UInt8):List (List UInt8×β)→Nat→Option Nat
 | [],_=>none
 | e::r,i=>if k == e.1 then some i else idxS k r (i+1)
def Mp.get {β:Type} (m:Mp β) (k:List UInt8):Option β:=(idxS k m.es 0).bind fun i=>(m.es[i]?).map (·.2)
def Mp.set {β:Type} (m:Mp β) (k:List UInt8) (x:β):Mp β:=
 match idxS k m.es 0 with
 | some i=>⟨m.es.set i (k,x),m.bs,m.clk⟩
 | none=>⟨m.es++[(k,x)],m.bs++[m.clk],m.clk+1⟩
structure MpOk {β:Type} (m:Mp β):Prop where
 len:m.bs.length=m.es.length
 nd:m.bs.Nodup
 lt:∀b∈m.bs,b < m.clk
theorem MpOk.set {β:Type} {m:Mp β} (h:MpOk m) (k:List UInt8) (x:β):MpOk (m.set k x):=by
 unfold Mp.set
 split
 ·exact ⟨by rw [List.length_set];exact h.len,h.nd,h.lt⟩
 ·refine ⟨by simp [h.len],?_,?_⟩
  ·refine List.nodup_append.2 ⟨h.nd,by simp,?_⟩
   intro a ha b hb
   have:=h.lt a ha
   have:b=m.clk:=by simpa using hb
   omega
  ·intro b hb
   rcases List.mem_append.1 hb with hb|hb
   ·have:=h.lt b hb;show b < m.clk+1;omega
   ·have:b=m.clk:=by simpa using hb
    show b < m.clk+1;omega
section
variable {H:Heap} {a:Nat} {z x:V} {k:List UInt8} {ok:Bool} {β:Type} {g:β→V} {m:Mp β}
end
def namedS (s:List UInt8):Bool:=!oddS s
variable {L:Lib} (hL:L.T=tab.get)
include hL
end Go.Proofs.YtigdhgbkgfagiaaGreat
