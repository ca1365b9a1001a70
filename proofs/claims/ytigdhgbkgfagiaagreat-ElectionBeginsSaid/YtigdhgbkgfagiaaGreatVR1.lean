/- Numbers: the reference's Check, Both, Same, less, at, Trim, walked. · Numbers: the reference's plus, minus, half, walked. · Numbers: the reference's Gcd (by halves), walked. · Fractions: the reference's Check, walked. -/
import Derived.Test.YtigdhgbkgfagiaaGreatVM1
import Derived.Test.YtigdhgbkgfagiaaGreatVM2
import Derived.Test.YtigdhgbkgfagiaaGreatVN5
set_option maxRecDepth 100000
set_option maxHeartbeats 4000000
set_option linter.unusedVariables false
set_option linter.unusedSimpArgs false
namespace Go.Proofs.YtigdhgbkgfagiaaGreat
def capT (a:List Nat):Option Nat:=if a=[] then some 0 else none
theorem sliceV_refN {n k a:Nat} (h:k≤n):sliceV 1 (.ref a 1 0 n none) (some none) (some (some k)) (some none)=some (.ref a 1 0 k none):=by
 unfold sliceV
 simp;omega
theorem rowsOf_tl'' {s:Nat} {c:Option Nat} {g:Nat→Option Blk}:rowsOf 1 g (tl nrow s [] c)=some ([],[]):=by
 unfold tl
 simp [rowsOf]
variable {L:Lib} (hL:L.T=tab.get)
include hL
theorem r3check_v {s:Nat} {l:List Nat} {c:Option Nat} (hs:s=1∨l=[]) (hl:l.length < 4611686018427387904):VFn L 192 [tl nrow s l c] (.int .i64 (chkN l)):=by
 refine VFn.start (F:=T192.1) (by rw [hL];rfl) rfl rfl rfl ?_
 unfold chkN
 by_cases h1:(96:Int) < l.length
 ·rw [if_pos (by omega)]
  refine Wf0 h1 ?_
  exact FnQ.ret rfl rfl
 rw [if_neg (by omega)]
 by_cases h0:0 < l.length
 ·obtain rfl:=size_of hs h0
  have hi:l.length - 1 < l.length:=by omega
  obtain ⟨x,hx,_⟩:=get_of hi
  have hw:IntKind.i64.wrap ((l.length:Int) - 1)=((l.length - 1:Nat):Int):=by rw [wrap_i64 (by omega) (by omega)];omega
  have h0':(0:Int) < l.length:=by omega
  rw [lmb_of hx]
  have hn:V.nat? (.int .i64 ((l.length - 1:Nat):Int))=some (l.length - 1):=by simp [V.nat?]
  by_cases hx0:x=0
  ·subst hx0
   rw [if_pos ⟨h0,rfl⟩]
   refine Wf0 (Q5 h1 h0' hw hn (Q3 (iT hi) hx @nrow_eq)) ?_
   exact FnQ.ret rfl rfl
  ·rw [if_neg (fun h=>hx0 h.2)]
   have hx0':¬(x:Int)=0:=by omega
   refine Wf0 (Q5 h1 h0' hw hn (Q4 (iT hi) hx @nrow_eq hx0')) ?_
   exact FnQ.ret rfl rfl
 ·have h0':¬(0:Int) < l.length:=by omega
  rw [if_neg (fun h=>h0 h.1)]
  refine Wf0 (Q2 h1 h0') ?_
  exact FnQ.ret rfl rfl
theorem r3both_v {s t:Nat} {a b:List Nat} {c d:Option Nat} (hs:s=1∨a=[]) (ht:t=1∨b=[]) (ha:a.length < 4611686018427387904) (hb:b.length < 4611686018427387904):VFn L 163 [tl nrow s a c,tl nrow t b d] (.int .i64 (bothN a b)):=by
 have k1:=r3check_v hL (c:=c) hs ha
 have k2:=r3check_v hL (c:=d) ht hb
 unfold bothN
 by_cases h:chkN a=0
 ·rw [if_pos h]
  rw [h] at k1
  refine VFn.start (F:=T163.1) (by rw [hL];rfl) rfl rfl rfl ?_
  refine Wn2 k1 k2 ?_
  exact FnQ.ret rfl rfl
 ·rw [if_neg h]
  refine VFn.start (F:=T163.1) (by rw [hL];rfl) rfl rfl rfl ?_
  refine Wf2 h k1 k2 ?_
  exact FnQ.ret rfl rfl
theorem r3same_v {s t:Nat} {a b:List Nat} {c d:Option Nat} (hs:s=1∨a=[]) (ht:t=1∨b=[]) (la:a.length < 4611686018427387904) (lb:b.length < 4611686018427387904):VFn L 142 [tl nrow s a c,tl nrow t b d] (.bool (decide (a=b))):=by
 refine VFn.start (F:=T142.1) (by rw [hL];rfl) rfl rfl rfl ?_
 by_cases hlen:a.length=b.length
 ·refine Wf0 hlen ?_
  refine wCnt rfl 5 b.length (fun _=>[]) (fun j=>a.take j=b.take j) rfl rfl ?_ ?_
  ·intro j hj hI
   have hj2:j < a.length:=by omega
   obtain ⟨x,hx,_⟩:=get_of hj2
   obtain ⟨y,hy,_⟩:=get_of hj
   obtain rfl:=size_of hs hj2
   obtain rfl:=size_of ht hj
   have hw:=wrap_succ (show j < 9223372036854775807 by omega)
   have hja:(j:Int) < (a.length:Int):=by omega
   by_cases e:x=y
   ·subst e
    refine Wf0 (Q5 (iT hj2) (iT hj) hx hy (Q4 hj hj2 hw @nrow_eq)) ?_
    exact qR_n rfl rfl (by rw [take_snoc hx,take_snoc hy,hI])
   ·have e':¬(x:Int)=(y:Int):=by omega
    refine Wf0 (Q5 (iT hj2) (iT hj) hx hy (Q5 hj hj2 hw @nrow_eq e')) ?_
    rw [decide_eq_false fun e2=>e (by subst e2;rw [hx] at hy;exact Option.some.inj hy)]
    exact FnQ.ret rfl rfl
  ·intro hI
   rw [take_all,List.take_of_length_le (by omega)] at hI
   refine Wf0 hlen ?_
   rw [decide_eq_true hI]
   exact FnQ.ret rfl rfl
 ·have hl':¬(a.length:Int)=(b.length:Int):=by omega
  refine Wf0 hl' ?_
  rw [decide_eq_false fun e=>hlen (by rw [e])]
  exact FnQ.ret rfl rfl
theorem r3less_v {s t:Nat} {a b:List Nat} {c d:Option Nat} (hs:s=1∨a=[]) (ht:t=1∨b=[]) (ha:a.length < 4611686018427387904) (hb:b.length < 4611686018427387904) (ka:limOk a) (kb:limOk b) (sa:shortN a) (sb:shortN b):VFn L 166 [tl nrow s a c,tl nrow t b d] (.bool (decide (valN a < valN b))):=by
 refine VFn.start (F:=T166.1) (by rw [hL];rfl) rfl rfl rfl ?_
 by_cases hl:a.length=b.length
 ·have hl':(a.length:Int)=b.length:=by omega
  have w1:IntKind.i64.wrap ((b.length:Int) - 1)=(b.length:Int) - 1:=wrap_i64 (by omega) (by omega)
  refine Wf0 (Q3 hl hl' w1) ?_
  refine wWhile rfl (fun k:Nat=>[(0,tl nrow s a c),(1,tl nrow t b d),(5,V.int IntKind.i64 ((k:Int) - 1))]) (fun _=>[]) (fun k=>k) (fun k=>k≤b.length∧∀j,k≤j→j < a.length→lmb a j=lmb b j) b.length rfl rfl ⟨Nat.le_refl _,fun j h1 h2=>by omega⟩ ?_
  rintro k ⟨k1,k2⟩
  cases k with
  | zero=>
   have h0:¬(0:Int)≤0 - 1:=by omega
   have he:a=b:=val_same hl (fun j h=>k2 j (Nat.zero_le _) h)
   refine Wf0 h0 ?_
   rw [decide_eq_false (by rw [he];exact Nat.lt_irrefl _)]
   exact FnQ.ret rfl rfl
  | succ k=>
   have ia:k < a.length:=by omega
   have ib:k < b.length:=by omega
   obtain ⟨x,hx,_⟩:=get_of ia
   obtain ⟨y,hy,_⟩:=get_of ib
   obtain rfl:=size_of hs ia
   obtain rfl:=size_of ht ib
   have h0:(0:Int)≤(k:Int):=by omega
   have wk:IntKind.i64.wrap ((k:Int) - 1)=(k:Int) - 1:=wrap_i64 (by omega) (by omega)
   have xx:=lmb_of hx
   have yy:=lmb_of hy
   by_cases h1:x < y
   ·have h1':(x:Int) < y:=by omega
    have hne:¬(x:Int)=y:=by omega
    refine Wf0 (Q5 h0 hx hy @nrow_eq (Q4 (iT ia) (iT ib) h1' hne)) ?_
    rw [decide_eq_true (val_first ka kb hl ia (by rw [xx,yy];exact h1) (fun j h2 h3=>k2 j (by omega) h3))]
    exact FnQ.ret rfl rfl
   by_cases h2:y < x
   ·have h1':¬(x:Int) < y:=by omega
    have hne:¬(x:Int)=y:=by omega
    refine Wf0 (Q5 h0 hx hy @nrow_eq (Q4 (iT ia) (iT ib) h1' hne)) ?_
    have hlt:=val_first kb ka hl.symm ib (by rw [xx,yy];exact h2) (fun j h2 h3=>(k2 j (by omega) (by omega)).symm)
    rw [decide_eq_false (by omega)]
    exact FnQ.ret rfl rfl
   have hne:(x:Int)=y:=by omega
   refine Wf0 (Q5 h0 hx hy @nrow_eq (Q4 (iT ia) (iT ib) hne wk)) ?_
   refine qW_n k rfl rfl ⟨by omega,by omega,fun j h3 h4=>?_⟩
   by_cases e:j=k
   ·subst e;rw [xx,yy];omega
   ·exact k2 j (by omega) h4
 ·have hl':¬(a.length:Int)=b.length:=by omega
  by_cases h:a.length < b.length
  ·have h':(a.length:Int) < b.length:=by omega
   refine Wf0 (Q2 hl' h') ?_
   rw [decide_eq_true (val_len ka sb h)]
   exact FnQ.ret rfl rfl
  ·have h':¬(a.length:Int) < b.length:=by omega
   have:=val_len kb sa (show b.length < a.length by omega)
   refine Wf0 (Q2 hl' h') ?_
   rw [decide_eq_false (by omega)]
   exact FnQ.ret rfl rfl
theorem r3at_v {s i:Nat} {a:List Nat} {c:Option Nat} (hs:s=1∨a=[]) (ka:limOk a) (ha:a.length < 4611686018427387904):VFn L 196 [tl nrow s a c,.int .i64 i] (.int .u64 (lmb a i:Nat)):=by
 refine VFn.start (F:=T196.1) (by rw [hL];rfl) rfl rfl rfl ?_
 by_cases h:i < a.length
 ·obtain rfl:=size_of hs h
  have h':¬(a.length:Int)≤(i:Int):=by omega
  have hg:=get_lmb h
  have w:=wrap_u64 (lt64 (lmb_lt ka i))
  refine Wf0 (Q5 h' (iT h) hg @nrow_eq w) ?_
  exact FnQ.ret rfl rfl
 ·have h':(a.length:Int)≤(i:Int):=by omega
  rw [lmb_ge (by omega)]
  refine Wf0 h' ?_
  exact FnQ.ret rfl rfl
theorem r3trim_v {s:Nat} {a:List Nat} {c:Option Nat} (hs:s=1∨a=[]) (ha:a.length≤1000):VFn L 193 [tl nrow s a c] (tl nrow 1 (trimN a) (capT a)):=by
 by_cases hne:a=[]
 ·subst hne
  refine VFn.start (F:=T193.1) (by rw [hL];rfl) rfl rfl rfl ?_
  refine Wf0 @rowsOf_tl'' ?_
  refine wWhile rfl (fun _:Unit=>[(3,V.ref 0 1 0 0 (some 0))]) (fun _=>[some (Blk.arr 1 (over [] 0 []))]) (fun _=>0) (fun _=>True) () rfl rfl trivial (fun _ _=>?_)
  refine Wn0 ?_
  exact FnQ.frz [0] rfl rfl
 ·obtain rfl:=hs.resolve_right hne
  have hpos:=List.length_pos_iff.2 hne
  rw [show capT a=none from if_neg hne]
  have hne':¬a.length≤0:=by omega
  have hroom:a.length*4≤140737488355328:=by omega
  refine VFn.start (F:=T193.1) (by rw [hL];rfl) rfl rfl rfl ?_
  refine Wf0 (Q3 @rowsOf_tl' hne' hroom) ?_
  refine wWhile rfl (fun k:Nat=>[(3,V.ref 1 1 0 k none)]) (fun _=>[some (Blk.arr 1 []),some (Blk.arr 1 (a.map nrow))]) (fun k=>k) (fun k=>k≤a.length∧∀i x,k≤i→a[i]?=some x→x=0) a.length rfl rfl ⟨Nat.le_refl _,fun i x h1 h2=>by rw [List.getElem?_eq_none h1] at h2;cases h2⟩ ?_
  rintro k ⟨k1,k2⟩
  have fin:a.take k=trimN a→FnQ T193.1 0 (fun r' H'=>r'=tl nrow 1 (trimN a) none∧H'=[]) .ret [(2,V.ref 1 1 0 k none)] [some (Blk.arr 1 []),some (Blk.arr 1 (a.map nrow))]:=fun ht=>by
   refine FnQ.frz [1] rfl ?_
   have hk:(a.take k).length=k:=by rw [List.length_take];omega
   have:=frz_partS (l:=a.take k) (t:=a.drop k) (c:=none) (H:=[some (Blk.arr 1 []),some (Blk.arr 1 (a.map nrow))]) (src:=[]) (fz:=[1]) (a:=1) closed_nrow Nat.one_pos rfl rfl (by rw [List.take_append_drop];rfl)
   rw [hk,ht] at this
   exact this
  cases k with
  | zero=>
   have h0:¬(0:Int) < 0:=by omega
   refine Wf0 h0 ?_
   exact fin (take_trim (Nat.zero_le _) k2 (.inl rfl))
  | succ k=>
   have hk:k < a.length:=by omega
   obtain ⟨x,hx,_⟩:=get_of hk
   have h0:(0:Int) < (k:Int)+1:=by omega
   have hw:IntKind.i64.wrap ((k:Int)+1 - 1)=(k:Int):=by rw [wrap_i64 (by omega) (by omega)];omega
   have hw2:IntKind.i64.wrap (k:Int)=(k:Int):=wrap_nat (by omega)
   have hsl:=sliceV_refN (a:=1) (show k≤k+1 by omega)
   by_cases hx0:x=0
   ·subst hx0
    (repeat' (first|refine Z0 ?_|refine Z3 ?_|refine Z2 ?_|simp only [seval,push_cast,↓reduceIte,↓bP_some,↓aP_true,reduceCtorEq,h0,hw,hw2,hk,hx,nrow_eq,hsl,Nat.lt_succ_self k]))
    refine qW_n k rfl rfl ⟨by omega,by omega,fun i x h1 h2=>?_⟩
    by_cases e:i=k
    ·subst e;rw [hx] at h2;exact (Option.some.inj h2).symm
    ·exact k2 i x (by omega) h2
   ·have hx0':¬(x:Int)=0:=by omega
    (repeat' (first|refine Z0 ?_|refine Z3 ?_|refine Z2 ?_|simp only [seval,push_cast,↓reduceIte,↓bP_some,↓aP_true,reduceCtorEq,h0,hw,hw2,hk,hx,nrow_eq,hx0',Nat.lt_succ_self k]))
    exact fin (take_trim k1 k2 (.inr ⟨x,hx,hx0⟩))
end Go.Proofs.YtigdhgbkgfagiaaGreat
namespace Go.Proofs.YtigdhgbkgfagiaaGreat
theorem acc_caseN {α:Type} (f:α→List V) (a n:Nat) (r:List α):accV a n r=.lst 0 [] (some 0)∧accB f n r=none∧r=[]∨accV a n r=.ref a n 0 r.length none∧accB f n r=some (.arr n (r.map f))∧r≠[]:=by
 by_cases hr:r=[]
 ·subst hr;exact .inl ⟨rfl,rfl,rfl⟩
 ·exact .inr ⟨accV_cons hr,accB_cons hr,hr⟩
theorem remW_i (z:Nat):binV .rem (.int .u64 (z:Int)) (.int .u64 4294967296)=some (.int .u64 ((z % W32:Nat):Int)):=rem_i (z:=z) (y:=W32) W32_pos
theorem quoW_i {z:Nat} (hz:z < 18446744073709551616):binV .quo (.int .u64 (z:Int)) (.int .u64 4294967296)=some (.int .u64 ((z / W32:Nat):Int)):=quo_i (z:=z) (y:=W32) W32_pos hz
def plF (a b:List Nat) (i:Nat):Nat:=lmb a i+lmb b i
def capP (a b:List Nat):Option Nat:=if a=[]∧b=[] then some 0 else none
theorem plF_le {a b:List Nat} (ka:limOk a) (kb:limOk b) (i:Nat):plF a b i≤2*(W32 - 1):=by
 unfold plF
 have:=lmb_lt ka i
 have:=lmb_lt kb i
 omega
theorem nrow_snoc {r:List Nat} {x:Nat}:r.map nrow++[[.int .u32 (x:Int)]]=(r++[x]).map nrow:=by rw [List.map_append];rfl
theorem frz_accN {H:Heap} {r:List Nat} (h:H.get 0=accB nrow 1 r):∃s c,(s=1∨r=[])∧V.ren (sgOf H [] [0]) (accV 0 1 r)=tl nrow s r c:=frz_acc closed_nrow Nat.one_pos rfl h
variable {L:Lib} (hL:L.T=tab.get)
include hL
theorem r3plus_v {s t:Nat} {a b:List Nat} {c d:Option Nat} (hs:s=1∨a=[]) (ht:t=1∨b=[]) (ka:limOk a) (kb:limOk b) (la:a.length≤900) (lb:b.length≤900):VFn L 165 [tl nrow s a c,tl nrow t b d] (tl nrow 1 (digN (valN a+valN b)) (capP a b)):=by
 have hF:=plF_le ka kb
 obtain ⟨m,hm⟩:∃m,m=max a.length b.length:=⟨_,rfl⟩
 have hFm:plF a b m=0:=by unfold plF;rw [lmb_ge (by omega),lmb_ge (by omega)]
 have hcm:cy (plF a b) 0 (m+1)=0:=by
  show (plF a b m+cy (plF a b) 0 m) / W32=0
  have:=cy_le hF m
  exact Nat.div_eq_of_lt (by rw [hFm];have h:W32=4294967296:=rfl;omega)
 refine VFn.start (F:=T165.1) (by rw [hL];rfl) rfl rfl rfl ?_
 refine Wn0 ?_
 refine wPad [none] rfl (by simp only [Env.sh,List.map_cons,List.map_nil];rfl) rfl ?_
 refine wWhile rfl (fun i:Nat=>[(0,tl nrow s a c),(1,tl nrow t b d),(5,accV 0 1 (lm (plF a b) 0 i)),(6,V.int .u64 (cy (plF a b) 0 i:Nat)),(7,V.int .i64 (i:Int))]) (fun i=>[accB nrow 1 (lm (plF a b) 0 i)]) (fun i=>m+1 - i) (fun i=>i≤m+1∧(i=0∨¬(a=[]∧b=[]))) 0 rfl rfl ⟨Nat.zero_le _,.inl rfl⟩ ?_
 rintro i ⟨i1,i2⟩
 have w1:=wrap_succ (show i < 9223372036854775807 by omega)
 have ka1:=r3at_v hL (c:=c) (i:=i) hs ka (by omega)
 have kb1:=r3at_v hL (c:=d) (i:=i) ht kb (by omega)
 have hx:=lmb_lt ka i
 have hy:=lmb_lt kb i
 have hk:=cy_le hF i
 have hW:W32=4294967296:=rfl
 have a1:=u64_add (x:=lmb a i) (n:=lmb b i) (by omega)
 have a2:=u64_add (x:=plF a b i) (n:=cy (plF a b) 0 i) (by have:=hF i;omega)
 rw [show lmb a i+lmb b i=plF a b i from rfl] at a1
 have rm:=remW_i (plF a b i+cy (plF a b) 0 i)
 have qu:=quoW_i (z:=plF a b i+cy (plF a b) 0 i) (by have:=hF i;omega)
 have w2:=wrap_n32 (n:=(plF a b i+cy (plF a b) 0 i) % W32) (Nat.mod_lt _ W32_pos)
 have hlen:=lm_len (plF a b) 0 i
 have e1:lm (plF a b) 0 (i+1)=lm (plF a b) 0 i++[(plF a b i+cy (plF a b) 0 i) % W32]:=rfl
 have e2:cy (plF a b) 0 (i+1)=(plF a b i+cy (plF a b) 0 i) / W32:=rfl
 have hstop:i=m+1→cy (plF a b) 0 i=0:=fun e=>by rw [e];exact hcm
 have hval:=lm_val (plF a b) 0 i
 have hlok:=lm_ok (plF a b) 0 i
 have hsum:m≤i→sumW (plF a b) i=valN a+valN b:=fun h=>by
  show sumW (fun i=>lmb a i+lmb b i) i=_
  rw [sumW_add,val_sum (by omega),val_sum (by omega)]
 by_cases hgo:(i:Int) < a.length∨(i:Int) < b.length∨(0:Int) < (cy (plF a b) 0 i:Nat)
 ·have him:i < m+1:=by
    rcases hgo with h|h|h
    ·omega
    ·omega
    ·refine Nat.lt_of_le_of_ne i1 fun e=>?_
     rw [hstop e] at h
     exact absurd h (by decide)
  have hne:¬(a=[]∧b=[]):=by
   rcases i2 with rfl|h
   ·rintro ⟨rfl,rfl⟩
    rcases hgo with h|h|h
    ·simp at h
    ·simp at h
    ·exact absurd h (by decide)
   ·exact h
  have hroom:((lm (plF a b) 0 i).length+1)*4≤140737488355328:=by omega
  have hroom2:(lm (plF a b) 0 i).length+1=i+1:=by omega
  clear hsum hval hstop hFm hcm
  generalize (plF a b i+cy (plF a b) 0 i) % W32=p at *
  generalize (plF a b i+cy (plF a b) 0 i) / W32=q at *
  generalize plF a b i+cy (plF a b) 0 i=z at *
  generalize plF a b i=f at *
  generalize lmb a i=x at *
  generalize lmb b i=y at *
  generalize cy (plF a b) 0 i=k at *
  generalize lm (plF a b) 0 i=r at *
  rcases acc_caseN nrow 0 1 r with ⟨hV,hB,hr⟩|⟨hV,hB,hr⟩
  ·rw [hr] at e1
   by_cases h1:(i:Int) < a.length
   ·refine Wf2 (Q5 h1 hV hB w1 (Q5 a1 a2 rm qu (Q3 w2 @nrow_eq @nrow_snoc))) ka1 kb1 ?_
    refine qW_s (i+1) [some 2] [] rfl ?_ ?_ ⟨(show m+1 - (i+1) < m+1 - i by omega),(show i+1≤m+1 by omega),.inr hne⟩
    ·show _=[(0,tl nrow s a c),(1,tl nrow t b d),(5,accV 0 1 (lm (plF a b) 0 (i+1))),(6,V.int .u64 (cy (plF a b) 0 (i+1):Nat)),(7,V.int .i64 ((i+1:Nat):Int))]
     rw [e1,e2];rfl
    ·show _=[accB nrow 1 (lm (plF a b) 0 (i+1))]
     rw [e1];rfl
   by_cases h2:(i:Int) < b.length
   ·refine Wf2 (Q5 h1 h2 hV hB (Q5 w1 a1 a2 rm (Q4 qu w2 @nrow_eq @nrow_snoc))) ka1 kb1 ?_
    refine qW_s (i+1) [some 2] [] rfl ?_ ?_ ⟨(show m+1 - (i+1) < m+1 - i by omega),(show i+1≤m+1 by omega),.inr hne⟩
    ·show _=[(0,tl nrow s a c),(1,tl nrow t b d),(5,accV 0 1 (lm (plF a b) 0 (i+1))),(6,V.int .u64 (cy (plF a b) 0 (i+1):Nat)),(7,V.int .i64 ((i+1:Nat):Int))]
     rw [e1,e2];rfl
    ·show _=[accB nrow 1 (lm (plF a b) 0 (i+1))]
     rw [e1];rfl
   have h3:=(hgo.resolve_left h1).resolve_left h2
   refine Wf2 (Q5 h1 h2 h3 hV (Q5 hB w1 a1 a2 (Q5 rm qu w2 @nrow_eq @nrow_snoc))) ka1 kb1 ?_
   refine qW_s (i+1) [some 2] [] rfl ?_ ?_ ⟨(show m+1 - (i+1) < m+1 - i by omega),(show i+1≤m+1 by omega),.inr hne⟩
   ·show _=[(0,tl nrow s a c),(1,tl nrow t b d),(5,accV 0 1 (lm (plF a b) 0 (i+1))),(6,V.int .u64 (cy (plF a b) 0 (i+1):Nat)),(7,V.int .i64 ((i+1:Nat):Int))]
    rw [e1,e2];rfl
   ·show _=[accB nrow 1 (lm (plF a b) 0 (i+1))]
    rw [e1];rfl
  ·by_cases h1:(i:Int) < a.length
   ·refine Wf2 (Q5 h1 hV hB w1 (Q5 a1 a2 rm qu (Q4 w2 @nrow_eq @nrow_snoc hroom))) ka1 kb1 ?_
    refine qW_s (i+1) [some 2] [] rfl ?_ ?_ ⟨(show m+1 - (i+1) < m+1 - i by omega),(show i+1≤m+1 by omega),.inr hne⟩
    ·show _=[(0,tl nrow s a c),(1,tl nrow t b d),(5,accV 0 1 (lm (plF a b) 0 (i+1))),(6,V.int .u64 (cy (plF a b) 0 (i+1):Nat)),(7,V.int .i64 ((i+1:Nat):Int))]
     rw [e1,e2,accV_snoc];rfl
    ·show _=[accB nrow 1 (lm (plF a b) 0 (i+1))]
     rw [e1,accB_snoc];exact sh_c (sh_b closed_nrow rfl) sh_n
   by_cases h2:(i:Int) < b.length
   ·refine Wf2 (Q5 h1 h2 hV hB (Q5 w1 a1 a2 rm (Q5 qu w2 @nrow_eq @nrow_snoc hroom))) ka1 kb1 ?_
    refine qW_s (i+1) [some 2] [] rfl ?_ ?_ ⟨(show m+1 - (i+1) < m+1 - i by omega),(show i+1≤m+1 by omega),.inr hne⟩
    ·show _=[(0,tl nrow s a c),(1,tl nrow t b d),(5,accV 0 1 (lm (plF a b) 0 (i+1))),(6,V.int .u64 (cy (plF a b) 0 (i+1):Nat)),(7,V.int .i64 ((i+1:Nat):Int))]
     rw [e1,e2,accV_snoc];rfl
    ·show _=[accB nrow 1 (lm (plF a b) 0 (i+1))]
     rw [e1,accB_snoc];exact sh_c (sh_b closed_nrow rfl) sh_n
   have h3:=(hgo.resolve_left h1).resolve_left h2
   refine Wf2 (Q5 h1 h2 h3 hV (Q5 hB w1 a1 a2 (Q5 rm qu w2 @nrow_eq (Q2 @nrow_snoc hroom)))) ka1 kb1 ?_
   refine qW_s (i+1) [some 2] [] rfl ?_ ?_ ⟨(show m+1 - (i+1) < m+1 - i by omega),(show i+1≤m+1 by omega),.inr hne⟩
   ·show _=[(0,tl nrow s a c),(1,tl nrow t b d),(5,accV 0 1 (lm (plF a b) 0 (i+1))),(6,V.int .u64 (cy (plF a b) 0 (i+1):Nat)),(7,V.int .i64 ((i+1:Nat):Int))]
    rw [e1,e2,accV_snoc];rfl
   ·show _=[accB nrow 1 (lm (plF a b) 0 (i+1))]
    rw [e1,accB_snoc];exact sh_c (sh_b closed_nrow rfl) sh_n
 ·have g1:¬(i:Int) < a.length:=fun h=>hgo (.inl h)
  have g2:¬(i:Int) < b.length:=fun h=>hgo (.inr (.inl h))
  have g3:¬(0:Int) < (cy (plF a b) 0 i:Nat):=fun h=>hgo (.inr (.inr h))
  have g4:cy (plF a b) 0 i=0:=by omega
  have hsum:=hsum (by omega)
  rw [g4,Nat.zero_mul,Nat.add_zero,hsum,Nat.add_zero] at hval
  have hcap:capT (lm (plF a b) 0 i)=capP a b:=by
   unfold capT capP
   by_cases h0:i=0
   ·subst h0
    have ea:a=[]:=List.length_eq_zero_iff.1 (by omega)
    have eb:b=[]:=List.length_eq_zero_iff.1 (by omega)
    rw [if_pos (show lm (plF a b) 0 0=[] from rfl),if_pos ⟨ea,eb⟩]
   ·rw [if_neg (i2.resolve_left h0),if_neg (fun e=>by have:=congrArg List.length e;rw [hlen] at this;simp at this;exact h0 this)]
  obtain ⟨s2,c2,hs2,hfz⟩:=frz_accN (H:=[accB nrow 1 (lm (plF a b) 0 i)]) (r:=lm (plF a b) 0 i) rfl
  have ktr:=r3trim_v hL (c:=c2) hs2 (by omega)
  rw [trim_dig hlok,hval,hcap] at ktr
  generalize lm (plF a b) 0 i=r at *
  generalize cy (plF a b) 0 i=k at *
  refine wShift [] [0] (E1:=[(0,tl nrow s a c),(1,tl nrow t b d),(5,tl nrow s2 r c2),(6,V.int .u64 (k:Nat)),(7,V.int .i64 (i:Int))]) (H1:=[]) rfl (congrArg (fun v=>[(0,tl nrow s a c),(1,tl nrow t b d),(5,v),(6,V.int .u64 (k:Nat)),(7,V.int .i64 (i:Int))]) hfz) rfl ?_
  refine Wf1 (Q3 g1 g2 g3) ktr ?_
  exact FnQ.ret rfl rfl
theorem r3minus_v {s t:Nat} {a b:List Nat} {c d:Option Nat} (hs:s=1∨a=[]) (ht:t=1∨b=[]) (ka:limOk a) (kb:limOk b) (sb_:shortN b) (hle:valN b≤valN a) (la:a.length≤900) (lb:b.length≤900):VFn L 195 [tl nrow s a c,tl nrow t b d] (tl nrow 1 (digN (valN a - valN b)) (capT a)):=by
 refine VFn.start (F:=T195.1) (by rw [hL];rfl) rfl rfl rfl ?_
 refine Wn0 ?_
 refine wPad [none] rfl (by simp only [Env.sh,List.map_cons,List.map_nil];rfl) rfl ?_
 refine wWhile rfl (fun i:Nat=>[(0,tl nrow s a c),(1,tl nrow t b d),(5,accV 0 1 (sb (lmb a) (lmb b) 0 i)),(6,V.int .u64 (bw (lmb a) (lmb b) 0 i:Nat)),(7,V.int .i64 (i:Int))]) (fun i=>[accB nrow 1 (sb (lmb a) (lmb b) 0 i)]) (fun i=>a.length - i) (fun i=>i≤a.length) 0 rfl rfl (Nat.zero_le _) ?_
 intro i i1
 have w1:=wrap_succ (show i < 9223372036854775807 by omega)
 have ka1:=r3at_v hL (c:=c) (i:=i) hs ka (by omega)
 have kb1:=r3at_v hL (c:=d) (i:=i) ht kb (by omega)
 have hx:=lmb_lt ka i
 have hy:=lmb_lt kb i
 have hk:=bw_le (lmb a) (lmb b) (c:=0) (by decide) i
 have hW:W32=4294967296:=rfl
 have hlen:=sb_len (lmb a) (lmb b) 0 i
 have hsok:=sb_ok (lmb a) (lmb b) 0 i
 have e1:sb (lmb a) (lmb b) 0 (i+1)=sb (lmb a) (lmb b) 0 i++[(lmb a i+W32 - lmb b i - bw (lmb a) (lmb b) 0 i) % W32]:=rfl
 have e2:bw (lmb a) (lmb b) 0 (i+1)=if lmb a i < lmb b i+bw (lmb a) (lmb b) 0 i then 1 else 0:=rfl
 by_cases hgo:(i:Int) < a.length
 ·have hi:i < a.length:=by omega
  have hroom:((sb (lmb a) (lmb b) 0 i).length+1)*4≤140737488355328:=by omega
  generalize lmb a i=x at *
  generalize lmb b i=y at *
  generalize bw (lmb a) (lmb b) 0 i=k at *
  generalize sb (lmb a) (lmb b) 0 i=r at *
  have a1:IntKind.u64.wrap ((x:Int)+4294967296)=((x+W32:Nat):Int):=by rw [←wrap_u64 (n:=x+W32) (by omega)];congr 1
  have a2:IntKind.u64.wrap (((x+W32:Nat):Int) - (y:Int))=((x+W32 - y:Nat):Int):=by rw [show (((x+W32:Nat):Int) - (y:Int))=((x+W32 - y:Nat):Int) by omega];exact wrap_u64 (by omega)
  have a3:IntKind.u64.wrap (((x+W32 - y:Nat):Int) - (k:Int))=((x+W32 - y - k:Nat):Int):=by rw [show (((x+W32 - y:Nat):Int) - (k:Int))=((x+W32 - y - k:Nat):Int) by omega];exact wrap_u64 (by omega)
  have rm:=remW_i (x+W32 - y - k)
  have qu:=quoW_i (z:=x+W32 - y - k) (by omega)
  have w2:=wrap_n32 (n:=(x+W32 - y - k) % W32) (Nat.mod_lt _ W32_pos)
  have a4:IntKind.u64.wrap (1 - (((x+W32 - y - k) / W32:Nat):Int))=((if x < y+k then 1 else 0:Nat):Int):=by
   by_cases h:x < y+k
   ·rw [if_pos h,Nat.div_eq_of_lt (by omega)];rfl
   ·rw [if_neg h,show (x+W32 - y - k) / W32=1 by rw [show x+W32 - y - k=(x - y - k)+W32 by omega,Nat.add_div_right _ W32_pos,Nat.div_eq_of_lt (by omega)]];rfl
  generalize (if x < y+k then 1 else 0:Nat)=q at *
  generalize (x+W32 - y - k) % W32=p at *
  generalize (x+W32 - y - k) / W32=q0 at *
  generalize x+W32 - y - k=z3 at *
  generalize x+W32 - y=z2 at *
  generalize x+W32=z1 at *
  rcases acc_caseN nrow 0 1 r with ⟨hV,hB,hr⟩|⟨hV,hB,hr⟩
  ·rw [hr] at e1
   refine Wf2 (Q5 hgo hi hV hB (Q5 w1 a1 a2 a3 (Q5 a4 rm qu w2 (Q2 @nrow_eq @nrow_snoc)))) ka1 kb1 ?_
   refine qW_s (i+1) [some 2] [] rfl ?_ ?_ ⟨(show a.length - (i+1) < a.length - i by omega),hi⟩
   ·show _=[(0,tl nrow s a c),(1,tl nrow t b d),(5,accV 0 1 (sb (lmb a) (lmb b) 0 (i+1))),(6,V.int .u64 (bw (lmb a) (lmb b) 0 (i+1):Nat)),(7,V.int .i64 ((i+1:Nat):Int))]
    rw [e1,e2];rfl
   ·show _=[accB nrow 1 (sb (lmb a) (lmb b) 0 (i+1))]
    rw [e1];rfl
  ·refine Wf2 (Q5 hgo hi hV hB (Q5 w1 a1 a2 a3 (Q5 a4 rm qu w2 (Q3 @nrow_eq @nrow_snoc hroom)))) ka1 kb1 ?_
   refine qW_s (i+1) [some 2] [] rfl ?_ ?_ ⟨(show a.length - (i+1) < a.length - i by omega),hi⟩
   ·show _=[(0,tl nrow s a c),(1,tl nrow t b d),(5,accV 0 1 (sb (lmb a) (lmb b) 0 (i+1))),(6,V.int .u64 (bw (lmb a) (lmb b) 0 (i+1):Nat)),(7,V.int .i64 ((i+1:Nat):Int))]
    rw [e1,e2,accV_snoc];rfl
   ·show _=[accB nrow 1 (sb (lmb a) (lmb b) 0 (i+1))]
    rw [e1,accB_snoc];exact sh_c (sh_b closed_nrow rfl) sh_n
 ·obtain rfl:i=a.length:=by omega
  have hlb:b.length≤a.length:=Nat.le_of_not_lt fun h=>absurd (val_len ka sb_ h) (by omega)
  have hv:=sb_val (a:=lmb a) (b:=lmb b) (c:=0) (by decide) (n:=a.length) fun i _=>⟨lmb_lt ka i,lmb_lt kb i⟩
  rw [val_sum (Nat.le_refl _),val_sum hlb,Nat.add_zero] at hv
  have hsl:=valN_lt hsok
  rw [hlen] at hsl
  have hb0:bw (lmb a) (lmb b) 0 a.length=0:=by
   refine Decidable.byContradiction fun h=>?_
   rw [show bw (lmb a) (lmb b) 0 a.length=1 by omega] at hv
   omega
  rw [hb0,Nat.zero_mul,Nat.add_zero] at hv
  have hval:valN (sb (lmb a) (lmb b) 0 a.length)=valN a - valN b:=by omega
  have hcap:capT (sb (lmb a) (lmb b) 0 a.length)=capT a:=by
   unfold capT
   by_cases h0:a=[]
   ·subst h0;rfl
   ·rw [if_neg h0,if_neg (fun e=>by have:=congrArg List.length e;rw [hlen] at this;exact h0 (List.length_eq_zero_iff.1 this))]
  obtain ⟨s2,c2,hs2,hfz⟩:=frz_accN (H:=[accB nrow 1 (sb (lmb a) (lmb b) 0 a.length)]) (r:=sb (lmb a) (lmb b) 0 a.length) rfl
  have ktr:=r3trim_v hL (c:=c2) hs2 (by omega)
  rw [trim_dig hsok,hval,hcap] at ktr
  generalize sb (lmb a) (lmb b) 0 a.length=r at *
  generalize bw (lmb a) (lmb b) 0 a.length=k at *
  refine wShift [] [0] (E1:=[(0,tl nrow s a c),(1,tl nrow t b d),(5,tl nrow s2 r c2),(6,V.int .u64 (k:Nat)),(7,V.int .i64 (a.length:Int))]) (H1:=[]) rfl (congrArg (fun v=>[(0,tl nrow s a c),(1,tl nrow t b d),(5,v),(6,V.int .u64 (k:Nat)),(7,V.int .i64 (a.length:Int))]) hfz) rfl ?_
  refine Wf1 hgo ktr ?_
  exact FnQ.ret rfl rfl
omit hL in
theorem half_at {x y:Nat} (hx:x < W32):(y % 2*W32+x) / 2=((y*W32+x) / 2 ^ 1) % W32:=by
 rw [shr_at (k:=1) (by decide) hx]
 have hW:W32=2*2147483648:=rfl
 rw [hW]
 have:(2:Nat) ^ (32 - 1)=2147483648:=rfl
 rw [this,Nat.pow_one]
 generalize y % 2=m
 omega
theorem r3half_v {s:Nat} {a:List Nat} {c:Option Nat} (hs:s=1∨a=[]) (ka:limOk a) (la:a.length≤900):VFn L 194 [tl nrow s a c] (tl nrow 1 (digN (valN a / 2)) (capT a)):=by
 have hroom:a.length*4≤140737488355328:=by omega
 have hroom2:a.length < 9223372036854775808:=by omega
 refine VFn.start (F:=T194.1) (by rw [hL];rfl) rfl rfl rfl ?_
 refine Wf0 (Q2 hroom hroom2) ?_
 refine wCntH rfl 4 a.length (fun _=>[]) (fun j=>[some (Blk.arr 1 ((rmB a 1 a.length j).map nrow))]) (fun _=>True) rfl (by rw [rmB_zero,List.map_replicate];rfl) trivial ?_ ?_
 ·intro j hj _
  obtain rfl:=size_of hs hj
  have hsu:=wrap_succ (show j < 9223372036854775807 by omega)
  have ka1:=r3at_v hL (c:=c) (i:=j+1) hs ka (by omega)
  rw [show ((j+1:Nat):Int)=(j:Int)+1 from rfl] at ka1
  have hg:=get_lmb hj
  have hx:=lmb_lt ka j
  have hy:=lmb_lt ka (j+1)
  have hW:W32=4294967296:=rfl
  have hset:=rmB_set (o:=a) (k:=1) hj
  have hget:=rmB_get (o:=a) (k:=1) hj
  rw [show shr (lmb a) 1 j=((lmb a (j+1)*W32+lmb a j) / 2 ^ 1) % W32 from rfl,←half_at hx] at hset
  have hz:lmb a (j+1) % 2*W32≤W32:=by
   have h1:lmb a (j+1) % 2≤1:=by omega
   have h2:=Nat.mul_le_mul_right W32 h1
   rwa [Nat.one_mul] at h2
  have w0:=wrap_u64 (lt64 hx)
  have r1:binV .rem (.int .u64 (lmb a (j+1):Int)) (.int .u64 2)=some (.int .u64 ((lmb a (j+1) % 2:Nat):Int)):=rem_i (z:=lmb a (j+1)) (y:=2) (by decide)
  have m1:IntKind.u64.wrap (((lmb a (j+1) % 2:Nat):Int)*4294967296)=((lmb a (j+1) % 2*W32:Nat):Int):=by rw [←wrap_u64 (n:=lmb a (j+1) % 2*W32) (by omega)];congr 1
  have a1:=u64_add (x:=lmb a (j+1) % 2*W32) (n:=lmb a j) (by omega)
  have q1:binV .quo (.int .u64 ((lmb a (j+1) % 2*W32+lmb a j:Nat):Int)) (.int .u64 2)=some (.int .u64 (((lmb a (j+1) % 2*W32+lmb a j) / 2:Nat):Int)):=quo_i (z:=_) (y:=2) (by decide) (by omega)
  have w2:=wrap_n32 (n:=(lmb a (j+1) % 2*W32+lmb a j) / 2) (by omega)
  generalize (lmb a (j+1) % 2*W32+lmb a j) / 2=p at *
  generalize lmb a (j+1) % 2*W32+lmb a j=z1 at *
  generalize lmb a (j+1) % 2*W32=z2 at *
  generalize lmb a (j+1) % 2=z3 at *
  generalize lmb a (j+1)=y at *
  generalize lmb a j=x at *
  refine Wf1 (Q5 hj hsu hg (iT hj) (Q5 @nrow_eq @nrow_set hget hset (Q5 w0 r1 m1 a1 (Q2 q1 w2)))) ka1 ?_
  exact qR_n rfl rfl trivial
 ·intro _
  have rl:=rmB_len (o:=a) (k:=1) (Nat.le_refl a.length)
  have rk:=rmB_ok (o:=a) (k:=1) (n:=a.length)
  have rv:=rmB_val (o:=a) (k:=1) (n:=a.length)
  have hsum:=shr_sum (k:=1) (by decide) (lmb_lt ka) a.length
  rw [lmb_ge (Nat.le_refl a.length),Nat.zero_mod,Nat.zero_mul,Nat.add_zero,val_sum (Nat.le_refl _),←rv,Nat.pow_one] at hsum
  have hval:valN (rmB a 1 a.length a.length)=valN a / 2:=by omega
  generalize rmB a 1 a.length a.length=R at *
  have hfz:=frz_refS' (l:=R) (c:=some a.length) (H:=[some (Blk.arr 1 (R.map nrow))]) (src:=[]) (fz:=[0]) (a:=0) closed_nrow Nat.one_pos rfl rfl rfl
  rw [rl] at hfz
  have ktr:=r3trim_v hL (s:=1) (a:=R) (c:=some a.length) (.inl rfl) (by omega)
  have hcap:capT R=capT a:=by
   unfold capT
   by_cases h0:a=[]
   ·subst h0;rw [if_pos (List.length_eq_zero_iff.1 rl),if_pos rfl]
   ·rw [if_neg h0,if_neg (fun e=>by rw [e] at rl;exact h0 (List.length_eq_zero_iff.1 rl.symm))]
  rw [trim_dig rk,hval,hcap] at ktr
  refine wShift [] [0] (E1:=[(0,tl nrow s a c),(3,tl nrow 1 R (some a.length)),(4,V.int .i64 (a.length:Int))]) (H1:=[]) rfl (congrArg (fun v=>[(0,tl nrow s a c),(3,v),(4,V.int .i64 (a.length:Int))]) hfz) rfl ?_
  refine Wn1 ktr ?_
  exact FnQ.ret rfl rfl
end Go.Proofs.YtigdhgbkgfagiaaGreat
namespace Go.Proofs.YtigdhgbkgfagiaaGreat
structure StG (G:Nat) (s:(List Nat×Option Nat)×(List Nat×Option Nat)×Nat):Prop where
 kx:limOk s.1.1
 ky:limOk s.2.1.1
 sx:shortN s.1.1
 sy:shortN s.2.1.1
 lx:s.1.1.length≤96
 ly:s.2.1.1.length≤96
 g:2 ^ s.2.2*Nat.gcd (valN s.1.1) (valN s.2.1.1)=G
 tw:s.2.2≤3100
theorem pow_w (n:Nat):W32 ^ n=2 ^ (32*n):=by
 rw [Nat.pow_mul];rfl
theorem tw_lt {t n G:Nat} (h:2 ^ t≤G) (hG:G < W32 ^ n):t < 32*n:=by
 rw [pow_w] at hG
 exact (Nat.pow_lt_pow_iff_right (show 1 < 2 by decide)).1 (Nat.lt_of_le_of_lt h hG)
theorem dig_nil {n:Nat}:digN n=[]↔n=0:=by
 constructor
 ·intro h
  have:=congrArg valN h
  rw [dig_val] at this
  exact this
 ·rintro rfl;exact dig_zero
theorem capP_dig {n:Nat}:capP (digN n) (digN n)=capT (digN (n+n)):=by
 unfold capP capT
 by_cases h:n=0
 ·subst h;rw [dig_zero];rfl
 ·rw [if_neg (fun e=>h (dig_nil.1 e.1)),if_neg (fun e=>h (by have:=dig_nil.1 e;omega))]
theorem val_parity {x:Nat} {l:List Nat} (h:l[0]?=some x):valN l % 2=x % 2:=by
 cases l with
 | nil=>cases h
 | cons y t=>
  obtain rfl:y=x:=by simpa using h
  show (y+W32*valN t) % 2=y % 2
  exact val_even
theorem dig_len96 {n m:Nat} {l:List Nat} (h:n≤valN l) (k:limOk l) (hl:l.length≤96):(digN n).length≤96:=digN_len.2 (Nat.lt_of_le_of_lt h (Nat.lt_of_lt_of_le (valN_lt k) (Nat.pow_le_pow_right W32_pos hl)))
variable {L:Lib} (hL:L.T=tab.get)
include hL
theorem r3gcd_a {s t:Nat} {a b:List Nat} {c d:Option Nat} (hs:s=1∨a=[]) (ht:t=1∨b=[]) (ka:limOk a) (kb:limOk b) (sa:shortN a) (sb:shortN b) (la:a.length≤96) (lb:b.length≤96) :
    AFn L (.fn 164) [tl nrow s a c,tl nrow t b d] [] (fun r H'=>(∃g,Nv g (digN (Nat.gcd (valN a) (valN b)))∧r=.tup [g,.int .i64 0])∧H'=[]):=by
 have hbo:bothN a b=0:=by unfold bothN;rw [if_pos (chk_zero.2 ⟨la,sa⟩)];exact chk_zero.2 ⟨lb,sb⟩
 have k0:=r3both_v hL (c:=c) (d:=d) hs ht (by omega) (by omega)
 rw [hbo] at k0
 have t1:=r3trim_v hL (c:=c) hs (by omega)
 have t2:=r3trim_v hL (c:=d) ht (by omega)
 rw [trim_short sa] at t1
 rw [trim_short sb] at t2
 have hA:=Nat.lt_of_lt_of_le (valN_lt ka) (Nat.pow_le_pow_right W32_pos la)
 have hB:=Nat.lt_of_lt_of_le (valN_lt kb) (Nat.pow_le_pow_right W32_pos lb)
 have hG:Nat.gcd (valN a) (valN b) < W32 ^ 96:=by
  rcases Nat.eq_zero_or_pos (valN a) with h|h
  ·rw [h,Nat.gcd_zero_left];exact hB
  ·exact Nat.lt_of_le_of_lt (Nat.gcd_le_left _ h) hA
 generalize hGe:Nat.gcd (valN a) (valN b)=G at *
 refine AFn.of_body (F:=T164.1) (by rw [hL];rfl) rfl ?_
 refine Wn3 k0 t1 t2 ?_
 refine wWhile rfl (fun s:(List Nat×Option Nat)×(List Nat×Option Nat)×Nat=>[(7,tl nrow 1 s.1.1 s.1.2),(8,tl nrow 1 s.2.1.1 s.2.1.2),(9,V.int .i64 (s.2.2:Int))]) (fun _=>[]) (fun s=>valN s.1.1+valN s.2.1.1) (StG G) ((a,capT a),(b,capT b),0) rfl rfl ⟨ka,kb,sa,sb,la,lb,by show 2 ^ 0*_=_;rw [Nat.pow_zero,Nat.one_mul];exact hGe,Nat.zero_le _⟩ ?_
 rintro ⟨⟨x,cx⟩,⟨y,cy'⟩,tw⟩ hI
 obtain ⟨kx,ky,sx,sy,lx,ly,hg,htw⟩:=hI
 simp only at kx ky sx sy lx ly hg htw
 by_cases ex:x=[]
 ·subst ex
  have hsum:Nat.gcd (valN ([]:List Nat)) (valN y)=valN ([]:List Nat)+valN y:=by
   rw [show valN []=0 from rfl,Nat.gcd_zero_left,Nat.zero_add]
  have hcapE:capP ([]:List Nat) y=capT (digN (valN ([]:List Nat)+valN y)):=by
   have d1:([]:List Nat)=[]↔valN ([]:List Nat)=0:=(val_zero sx).symm
   have d2:y=[]↔valN y=0:=(val_zero sy).symm
   have d3:=dig_nil (n:=valN ([]:List Nat)+valN y)
   unfold capP capT
   by_cases hz:([]:List Nat)=[]∧y=[]
   ·rw [if_pos hz,if_pos (d3.2 (by have:=d1.1 hz.1;have:=d2.1 hz.2;omega))]
   ·rw [if_neg hz,if_neg (fun e=>hz (by have:=d3.1 e;exact ⟨d1.2 (by omega),d2.2 (by omega)⟩))]
  have kp:=r3plus_v hL (s:=1) (t:=1) (c:=cx) (d:=cy') (.inl rfl) (.inl rfl) kx ky (by omega) (by omega)
  rw [hcapE,←hsum] at kp
  generalize Nat.gcd (valN ([]:List Nat)) (valN y)=g0 at *
  refine Xn1 kp ?_
  refine wCnt rfl 13 tw (fun i=>[(12,tl nrow 1 (digN (2 ^ i*g0)) (capT (digN (2 ^ i*g0))))]) (fun _=>True) (by rw [Nat.pow_zero,Nat.one_mul];rfl) trivial ?_ ?_
  ·intro i hi _
   have hle:2 ^ i*g0≤G:=by rw [←hg];exact Nat.mul_le_mul_right _ (Nat.pow_le_pow_right (by decide) (by omega))
   have hl96:(digN (2 ^ i*g0)).length≤96:=digN_len.2 (Nat.lt_of_le_of_lt hle hG)
   have kpp:=r3plus_v hL (s:=1) (t:=1) (a:=digN (2 ^ i*g0)) (b:=digN (2 ^ i*g0)) (c:=capT (digN (2 ^ i*g0))) (d:=capT (digN (2 ^ i*g0))) (.inl rfl) (.inl rfl) dig_ok dig_ok (by omega) (by omega)
   rw [dig_val,capP_dig] at kpp
   rw [show 2 ^ (i+1)*g0=2 ^ i*g0+2 ^ i*g0 by rw [Nat.pow_succ,Nat.mul_comm (2 ^ i) 2,Nat.mul_assoc,Nat.two_mul]]
   generalize 2 ^ i*g0=n at *
   have hiI:(i:Int) < (tw:Int):=by omega
   refine Wf1 (Q3 hiI hi (wrap_succ (show i < 9223372036854775807 by omega))) kpp ?_
   exact qR_n rfl rfl trivial
  ·intro _
   rw [hg]
   refine Wn0 ?_
   exact FnQ.at rfl ⟨⟨_,⟨1,_,.inl rfl,rfl⟩,rfl⟩,rfl⟩
 by_cases ey:y=[]
 ·subst ey
  have h0:(0:Int) < (x.length:Int):=by have:=List.length_pos_iff.2 ex;omega
  have hsum:Nat.gcd (valN x) (valN ([]:List Nat))=valN x+valN ([]:List Nat):=by
   rw [show valN []=0 from rfl,Nat.gcd_zero_right,Nat.add_zero]
  have hcapE:capP x ([]:List Nat)=capT (digN (valN x+valN ([]:List Nat))):=by
   have d1:x=[]↔valN x=0:=(val_zero sx).symm
   have d2:([]:List Nat)=[]↔valN ([]:List Nat)=0:=(val_zero sy).symm
   have d3:=dig_nil (n:=valN x+valN ([]:List Nat))
   unfold capP capT
   by_cases hz:x=[]∧([]:List Nat)=[]
   ·rw [if_pos hz,if_pos (d3.2 (by have:=d1.1 hz.1;have:=d2.1 hz.2;omega))]
   ·rw [if_neg hz,if_neg (fun e=>hz (by have:=d3.1 e;exact ⟨d1.2 (by omega),d2.2 (by omega)⟩))]
  have kp:=r3plus_v hL (s:=1) (t:=1) (c:=cx) (d:=cy') (.inl rfl) (.inl rfl) kx ky (by omega) (by omega)
  rw [hcapE,←hsum] at kp
  generalize Nat.gcd (valN x) (valN ([]:List Nat))=g0 at *
  refine Xf1 h0 kp ?_
  refine wCnt rfl 13 tw (fun i=>[(12,tl nrow 1 (digN (2 ^ i*g0)) (capT (digN (2 ^ i*g0))))]) (fun _=>True) (by rw [Nat.pow_zero,Nat.one_mul];rfl) trivial ?_ ?_
  ·intro i hi _
   have hle:2 ^ i*g0≤G:=by rw [←hg];exact Nat.mul_le_mul_right _ (Nat.pow_le_pow_right (by decide) (by omega))
   have hl96:(digN (2 ^ i*g0)).length≤96:=digN_len.2 (Nat.lt_of_le_of_lt hle hG)
   have kpp:=r3plus_v hL (s:=1) (t:=1) (a:=digN (2 ^ i*g0)) (b:=digN (2 ^ i*g0)) (c:=capT (digN (2 ^ i*g0))) (d:=capT (digN (2 ^ i*g0))) (.inl rfl) (.inl rfl) dig_ok dig_ok (by omega) (by omega)
   rw [dig_val,capP_dig] at kpp
   rw [show 2 ^ (i+1)*g0=2 ^ i*g0+2 ^ i*g0 by rw [Nat.pow_succ,Nat.mul_comm (2 ^ i) 2,Nat.mul_assoc,Nat.two_mul]]
   generalize 2 ^ i*g0=n at *
   have hiI:(i:Int) < (tw:Int):=by omega
   refine Wf1 (Q3 hiI hi (wrap_succ (show i < 9223372036854775807 by omega))) kpp ?_
   exact qR_n rfl rfl trivial
  ·intro _
   rw [hg]
   refine Wn0 ?_
   exact FnQ.at rfl ⟨⟨_,⟨1,_,.inl rfl,rfl⟩,rfl⟩,rfl⟩
 have hx0:=List.length_pos_iff.2 ex
 have hy0:=List.length_pos_iff.2 ey
 have hxi:(0:Int) < (x.length:Int):=by omega
 have hyi:(0:Int) < (y.length:Int):=by omega
 obtain ⟨x0,hx,_⟩:=get_of hx0
 obtain ⟨y0,hy,_⟩:=get_of hy0
 have px:=val_parity hx
 have py:=val_parity hy
 have vx:=short_val_pos sx ex
 have vy:=short_val_pos sy ey
 have rx:binV .rem (.int .u32 (x0:Int)) (.int .u32 2)=some (.int .u32 ((x0 % 2:Nat):Int)):=by simp only [binV,binInt];rfl
 have ry:binV .rem (.int .u32 (y0:Int)) (.int .u32 2)=some (.int .u32 ((y0 % 2:Nat):Int)):=by simp only [binV,binInt];rfl
 generalize x0 % 2=xp at *
 generalize y0 % 2=yp at *
 have hX2:=Nat.mod_add_div (valN x) 2
 have hY2:=Nat.mod_add_div (valN y) 2
 have dx2:(digN (valN x / 2)).length≤96:=dig_len96 (m:=0) (Nat.div_le_self _ _) kx lx
 have dy2:(digN (valN y / 2)).length≤96:=dig_len96 (m:=0) (Nat.div_le_self _ _) ky ly
 have hfx:=r3half_v hL (s:=1) (c:=cx) (.inl rfl) kx (by omega)
 have hfy:=r3half_v hL (s:=1) (c:=cy') (.inl rfl) ky (by omega)
 by_cases h1:xp=0
 ·have h1':(xp:Int)=0:=by omega
  have ex2:valN x=2*(valN x / 2):=by omega
  by_cases h2:yp=0
  ·have h2':(yp:Int)=0:=by omega
   have ey2:valN y=2*(valN y / 2):=by omega
   have hg2:2 ^ (tw+1)*Nat.gcd (valN x / 2) (valN y / 2)=G:=by
    rw [←hg,Nat.pow_succ,Nat.mul_assoc,←gcd_both,←ex2,←ey2]
   have htw2:tw+1≤3100:=by
    have e1:2 ^ (tw+1)≤G:=by
     rw [←hg2]
     exact Nat.le_mul_of_pos_right _ (Nat.gcd_pos_of_pos_left _ (by omega))
    have:=tw_lt e1 hG
    omega
   have wt:=wrap_succ (show tw < 9223372036854775807 by omega)
   refine Wf2 (Q5 hxi hyi hx0 hy0 (Q5 (iT hx0) (iT hy0) hx hy (Q5 @nrow_eq rx ry h1' (Q2 h2' wt)))) hfx hfy ?_
   exact qW_n ((digN (valN x / 2),capT x),(digN (valN y / 2),capT y),tw+1) rfl rfl ⟨by show valN (digN _)+valN (digN _) < _;rw [dig_val,dig_val];omega,dig_ok,dig_ok,dig_short,dig_short,dx2,dy2,by show 2 ^ (tw+1)*Nat.gcd (valN (digN _)) (valN (digN _))=G;rw [dig_val,dig_val];exact hg2,htw2⟩
  ·have h2':¬(yp:Int)=0:=by omega
   have hodd:valN y % 2=1:=by omega
   have hg2:2 ^ tw*Nat.gcd (valN x / 2) (valN y)=G:=by rw [←hg,←gcd_odd_r hodd,←ex2]
   refine Wf2 (Q5 hxi hyi hx0 hy0 (Q5 (iT hx0) (iT hy0) hx hy (Q5 @nrow_eq rx ry h1' h2'))) hfx hfy ?_
   exact qW_n ((digN (valN x / 2),capT x),(y,cy'),tw) rfl rfl ⟨by show valN (digN _)+valN y < _;rw [dig_val];omega,dig_ok,ky,dig_short,sy,dx2,ly,by show 2 ^ tw*Nat.gcd (valN (digN _)) (valN y)=G;rw [dig_val];exact hg2,htw⟩
 ·have h1':¬(xp:Int)=0:=by omega
  have hoddx:valN x % 2=1:=by omega
  by_cases h2:yp=0
  ·have h2':(yp:Int)=0:=by omega
   have ey2:valN y=2*(valN y / 2):=by omega
   have hg2:2 ^ tw*Nat.gcd (valN x) (valN y / 2)=G:=by rw [←hg,←gcd_odd_l hoddx,←ey2]
   refine Wf2 (Q5 hxi hyi hx0 hy0 (Q5 (iT hx0) (iT hy0) hx hy (Q5 @nrow_eq rx ry h1' h2'))) hfx hfy ?_
   exact qW_n ((x,cx),(digN (valN y / 2),capT y),tw) rfl rfl ⟨by show valN x+valN (digN _) < _;rw [dig_val];omega,kx,dig_ok,sx,dig_short,lx,dy2,by show 2 ^ tw*Nat.gcd (valN x) (valN (digN _))=G;rw [dig_val];exact hg2,htw⟩
  ·have h2':¬(yp:Int)=0:=by omega
   have kl:=r3less_v hL (s:=1) (t:=1) (c:=cx) (d:=cy') (.inl rfl) (.inl rfl) (by omega) (by omega) kx ky sx sy
   by_cases hlt:valN x < valN y
   ·rw [decide_eq_true hlt] at kl
    have km:=r3minus_v hL (s:=1) (t:=1) (c:=cy') (d:=cx) (.inl rfl) (.inl rfl) ky kx sx (Nat.le_of_lt hlt) (by omega) (by omega)
    have dl:(digN (valN y - valN x)).length≤96:=dig_len96 (m:=0) (Nat.sub_le _ _) ky ly
    refine Wf2 (Q5 hxi hyi hx0 hy0 (Q5 (iT hx0) (iT hy0) hx hy (Q5 @nrow_eq rx ry h1' h2'))) kl km ?_
    exact qW_n ((x,cx),(digN (valN y - valN x),capT y),tw) rfl rfl ⟨by show valN x+valN (digN _) < _;rw [dig_val];omega,kx,dig_ok,sx,dig_short,lx,dl,by show 2 ^ tw*Nat.gcd (valN x) (valN (digN _))=G;rw [dig_val,gcd_less (Nat.le_of_lt hlt)];exact hg,htw⟩
   ·rw [decide_eq_false hlt] at kl
    have km:=r3minus_v hL (s:=1) (t:=1) (c:=cx) (d:=cy') (.inl rfl) (.inl rfl) kx ky sy (by omega) (by omega) (by omega)
    have dl:(digN (valN x - valN y)).length≤96:=dig_len96 (m:=0) (Nat.sub_le _ _) kx lx
    refine Wf2 (Q5 hxi hyi hx0 hy0 (Q5 (iT hx0) (iT hy0) hx hy (Q5 @nrow_eq rx ry h1' h2'))) kl km ?_
    exact qW_n ((digN (valN x - valN y),capT x),(y,cy'),tw) rfl rfl ⟨by show valN (digN _)+valN y < _;rw [dig_val];omega,dig_ok,ky,dig_short,sy,dl,ly,by show 2 ^ tw*Nat.gcd (valN (digN _)) (valN y)=G;rw [dig_val,gcd_more (by omega)];exact hg,htw⟩
end Go.Proofs.YtigdhgbkgfagiaaGreat
namespace Go.Proofs.YtigdhgbkgfagiaaGreat
variable {L:Lib} (hL:L.T=tab.get)
include hL
theorem r4check_v {x:Fr} {s t:Nat} {c d:Option Nat} (hs:s=1∨x.num=[]) (ht:t=1∨x.den=[]) (ln:x.num.length < 4611686018427387904) (lm:x.den.length < 4611686018427387904) (kn:limOk x.num) (kd:limOk x.den):VFn L 131 [frV x s c t d] (.int .i64 (if okFr x then 0 else 8)):=by
 have kb:=r3both_v hL (c:=c) (d:=d) hs ht ln lm
 obtain ⟨neg,num,den⟩:=x
 unfold frV
 simp only at *
 by_cases e0:bothN num den=0
 ·have e12:chkN num=0∧chkN den=0:=by
    unfold bothN at e0
    by_cases h:chkN num=0
    ·rw [if_pos h] at e0;exact ⟨h,e0⟩
    ·rw [if_neg h] at e0;exact absurd e0 h
  obtain ⟨e1,e2⟩:=e12
  rw [e0] at kb
  by_cases e3:den=[]
  ·rw [if_neg (fun h=>h.2.2.1 e3)]
   subst e3
   refine VFn.start (F:=T131.1) (by rw [hL];rfl) rfl rfl rfl ?_
   refine Xn1 kb ?_
   exact FnQ.ret rfl rfl
  ·have h0:¬(den.length:Int)=0:=by have:=List.length_pos_iff.2 e3;omega
   by_cases e4:neg=true∧num=[]
   ·rw [if_neg (fun h=>h.2.2.2.1 e4)]
    obtain ⟨rfl,rfl⟩:=e4
    refine VFn.start (F:=T131.1) (by rw [hL];rfl) rfl rfl rfl ?_
    refine Xf1 h0 kb ?_
    exact FnQ.ret rfl rfl
   ·obtain ⟨la,sa⟩:=chk_zero.1 e1
    obtain ⟨lb,sb⟩:=chk_zero.1 e2
    have kg:=r3gcd_a hL (c:=c) (d:=d) hs ht kn kd sa sb la lb
    have hres:(if okFr ⟨neg,num,den⟩ then (0:Int) else 8)=gOne (Nat.gcd (valN num) (valN den)):=by
     unfold gOne
     by_cases hg:Nat.gcd (valN num) (valN den)=1
     ·rw [if_pos hg,if_pos ⟨e1,e2,e3,e4,hg⟩]
     ·rw [if_neg hg,if_neg (fun h=>hg h.2.2.2.2)]
    rw [hres]
    clear hres
    have hpd:=short_val_pos sb e3
    have hGl:(digN (Nat.gcd (valN num) (valN den))).length≤96:=digN_len.2 (Nat.lt_of_le_of_lt (Nat.gcd_le_right _ hpd) (Nat.lt_of_lt_of_le (valN_lt kd) (Nat.pow_le_pow_right W32_pos lb)))
    generalize Nat.gcd (valN num) (valN den)=G at *
    have hgo:gOne G=if digN G=[1] then 0 else 8:=by
     unfold gOne
     by_cases hg:G=1
     ·rw [if_pos hg,if_pos (dig_eq_one.2 hg)]
     ·rw [if_neg hg,if_neg (fun e=>hg (dig_eq_one.1 e))]
    rw [hgo]
    clear hgo
    generalize digN G=g at *
    refine VFn.start (F:=T131.1) (by rw [hL];rfl) rfl rfl rfl ?_
    by_cases e5:num=[]
    ·have hneg:neg=false:=by cases neg with|false=>rfl|true=>exact absurd ⟨rfl,e5⟩ e4
     subst hneg
     subst e5
     refine Xf1 h0 kb ?_
     refine opsP_cl (k:=164) (vs:=[tl nrow s [] c,tl nrow t den d]) (P:=fun r=>∃g1,Nv g1 g∧r=.tup [g1,.int .i64 0]) rfl rfl kg (by rintro r ⟨g1,hg1,rfl⟩;show (g1.closed&&(true&&true))=true;rw [hg1.closed];rfl) ?_
     rintro r ⟨g1,⟨s2,c2,hs2,rfl⟩,rfl⟩
     have ks:=r3same_v hL (a:=g) (b:=[1]) (c:=c2) (d:=some 1) hs2 (.inl rfl) (by omega) (by decide)
     by_cases hg:g=[1]
     ·rw [decide_eq_true hg] at ks
      rw [if_pos hg]
      refine Wn0 ?_
      refine opsP_lendN [1] rfl (vs':=[tl nrow s2 g c2,tl nrow 1 [1] (some 1)]) rfl ks rfl ?_
      refine Wn0 ?_
      exact FnQ.ret rfl rfl
     ·rw [decide_eq_false hg] at ks
      rw [if_neg hg]
      refine Wn0 ?_
      refine opsP_lendN [1] rfl (vs':=[tl nrow s2 g c2,tl nrow 1 [1] (some 1)]) rfl ks rfl ?_
      refine Wn0 ?_
      exact FnQ.ret rfl rfl
    ·have hn:¬(num.length:Int)=0:=by have:=List.length_pos_iff.2 e5;omega
     refine Wf1 (Q2 h0 hn) kb ?_
     refine opsP_cl (k:=164) (vs:=[tl nrow s num c,tl nrow t den d]) (P:=fun r=>∃g1,Nv g1 g∧r=.tup [g1,.int .i64 0]) rfl rfl kg (by rintro r ⟨g1,hg1,rfl⟩;show (g1.closed&&(true&&true))=true;rw [hg1.closed];rfl) ?_
     rintro r ⟨g1,⟨s2,c2,hs2,rfl⟩,rfl⟩
     have ks:=r3same_v hL (a:=g) (b:=[1]) (c:=c2) (d:=some 1) hs2 (.inl rfl) (by omega) (by decide)
     by_cases hg:g=[1]
     ·rw [decide_eq_true hg] at ks
      rw [if_pos hg]
      refine Wn0 ?_
      refine opsP_lendN [1] rfl (vs':=[tl nrow s2 g c2,tl nrow 1 [1] (some 1)]) rfl ks rfl ?_
      refine Wn0 ?_
      exact FnQ.ret rfl rfl
     ·rw [decide_eq_false hg] at ks
      rw [if_neg hg]
      refine Wn0 ?_
      refine opsP_lendN [1] rfl (vs':=[tl nrow s2 g c2,tl nrow 1 [1] (some 1)]) rfl ks rfl ?_
      refine Wn0 ?_
      exact FnQ.ret rfl rfl
 ·rw [if_neg (fun h=>e0 (by unfold bothN;rw [if_pos h.1];exact h.2.1))]
  refine VFn.start (F:=T131.1) (by rw [hL];rfl) rfl rfl rfl ?_
  refine Wf1 e0 kb ?_
  exact FnQ.ret rfl rfl
end Go.Proofs.YtigdhgbkgfagiaaGreat
