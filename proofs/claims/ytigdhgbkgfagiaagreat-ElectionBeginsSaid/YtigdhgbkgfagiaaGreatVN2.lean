/- Numbers: Check, both, order, Cmp, limb, by the program, walked. · Numbers: words of 32 and 64 bits: wrapping, shifts, bits; sums and differences with a carry, walked. · Numbers: trim, fits, Sub32, walked. · Numbers: Add, by the program, walked. · Numbers: bits of words; Sub32, walked. · Numbers: less, Sub, by the program, walked. -/
import Derived.Test.YtigdhgbkgfagiaaGreatVM2
import Derived.Test.YtigdhgbkgfagiaaGreatVM1
import Derived.Test.YtigdhgbkgfagiaaGreatVQ2
import Derived.Test.YtigdhgbkgfagiaaGreatVN1
set_option maxRecDepth 100000
set_option maxHeartbeats 4000000
set_option linter.unusedVariables false
set_option linter.unusedSimpArgs false
namespace Go.Proofs.YtigdhgbkgfagiaaGreat
def nrow (x:Nat):List V:=[.int .u32 (x:Int)]
theorem nrow_eq (x:Nat):nrow x=[.int .u32 (x:Int)]:=rfl
theorem closed_nrow (x:Nat):(nrow x).all V.closed=true:=rfl
def chkN (l:List Nat):Int:=if 96 < l.length then 4 else if 0 < l.length∧lmb l (l.length - 1)=0 then 8 else 0
def bothN (a b:List Nat):Int:=if chkN a=0 then chkN b else chkN a
theorem chk_zero {l:List Nat}:chkN l=0↔l.length≤96∧shortN l:=by
 unfold chkN
 have key:shortN l↔¬(0 < l.length∧lmb l (l.length - 1)=0):=by
  unfold shortN lmb
  rw [List.getLast?_eq_getElem?]
  by_cases h:0 < l.length
  ·rw [List.getD_eq_getElem?_getD,List.getElem?_eq_getElem (show l.length - 1 < l.length by omega)]
   simp [h]
  ·have:l=[]:=List.length_eq_zero_iff.1 (by omega)
   subst this;simp
 rw [key]
 split
 ·omega
 ·split
  ·rename_i h;simp [h]
  ·rename_i h1 h2;simp [h2];omega
variable {L:Lib} (hL:L.T=tab.get)
include hL
theorem ncheck_v {s:Nat} {l:List Nat} {c:Option Nat} (hs:s=1∨l=[]) (hl:l.length < 4611686018427387904):VFn L 157 [tl nrow s l c] (.int .i64 (chkN l)):=by
 refine VFn.start (F:=T157.1) (by rw [hL];rfl) rfl rfl rfl ?_
 unfold chkN
 by_cases h1:(96:Int) < l.length
 ·rw [if_pos (by omega)]
  refine Wf0 h1 ?_
  exact FnQ.ret rfl rfl
 rw [if_neg (by omega)]
 by_cases h0:0 < l.length
 ·obtain rfl:=size_of hs h0
  have hi:l.length - 1 < l.length:=by omega
  obtain ⟨x,hx,_⟩:=get_of hi
  have hw:IntKind.i64.wrap ((l.length:Int) - 1)=((l.length - 1:Nat):Int):=by rw [wrap_i64 (by omega) (by omega)];omega
  have h0':(0:Int) < l.length:=by omega
  rw [lmb_of hx]
  have hn:V.nat? (.int .i64 ((l.length - 1:Nat):Int))=some (l.length - 1):=by simp [V.nat?]
  by_cases hx0:x=0
  ·subst hx0
   rw [if_pos ⟨h0,rfl⟩]
   refine Wf0 (Q5 h1 h0' hw hn (Q3 (iT hi) hx @nrow_eq)) ?_
   exact FnQ.ret rfl rfl
  ·rw [if_neg (fun h=>hx0 h.2)]
   have hx0':¬(x:Int)=0:=by omega
   refine Wf0 (Q5 h1 h0' hw hn (Q4 (iT hi) hx @nrow_eq hx0')) ?_
   exact FnQ.ret rfl rfl
 ·have h0':¬(0:Int) < l.length:=by omega
  rw [if_neg (fun h=>h0 h.1)]
  refine Wf0 (Q2 h1 h0') ?_
  exact FnQ.ret rfl rfl
theorem nboth_v {s t:Nat} {a b:List Nat} {c d:Option Nat} (hs:s=1∨a=[]) (ht:t=1∨b=[]) (ha:a.length < 4611686018427387904) (hb:b.length < 4611686018427387904):VFn L 160 [tl nrow s a c,tl nrow t b d] (.int .i64 (bothN a b)):=by
 refine VFn.start (F:=T160.1) (by rw [hL];rfl) rfl rfl rfl ?_
 unfold bothN
 by_cases h:chkN a=0
 ·rw [if_pos h]
  (repeat' (first|refine Z0 ?_|refine Z3 ?_|refine Z2 ?_|refine opsV_call rfl rfl (ncheck_v hL hs ha) ?_|refine opsV_call rfl rfl (ncheck_v hL ht hb) ?_|simp only [seval,push_cast,↓reduceIte,↓bP_some,↓aP_true,reduceCtorEq,h]))
  exact FnQ.ret rfl rfl
 ·rw [if_neg h]
  (repeat' (first|refine Z0 ?_|refine Z3 ?_|refine Z2 ?_|refine opsV_call rfl rfl (ncheck_v hL hs ha) ?_|refine opsV_call rfl rfl (ncheck_v hL ht hb) ?_|simp only [seval,push_cast,↓reduceIte,↓bP_some,↓aP_true,reduceCtorEq,h]))
  exact FnQ.ret rfl rfl
theorem order_v {s t:Nat} {a b:List Nat} {c d:Option Nat} (hs:s=1∨a=[]) (ht:t=1∨b=[]) (ha:a.length < 4611686018427387904) (hb:b.length < 4611686018427387904) (ka:limOk a) (kb:limOk b) (sa:shortN a) (sb:shortN b):VFn L 161 [tl nrow s a c,tl nrow t b d] (.int .i64 (ordN (valN a) (valN b))):=by
 refine VFn.start (F:=T161.1) (by rw [hL];rfl) rfl rfl rfl ?_
 have wd:=wrap_i64 (n:=(a.length:Int) - b.length) (by omega) (by omega)
 by_cases hl:a.length=b.length
 ·have hl':(a.length:Int)=b.length:=by omega
  have w1:IntKind.i64.wrap ((b.length:Int) - 1)=(b.length:Int) - 1:=wrap_i64 (by omega) (by omega)
  refine Wf0 (Q3 hl hl' w1) ?_
  refine wWhile rfl (fun k:Nat=>[(0,tl nrow s a c),(1,tl nrow t b d),(5,V.int IntKind.i64 ((k:Int) - 1))]) (fun _=>[]) (fun k=>k) (fun k=>k≤b.length∧∀j,k≤j→j < a.length→lmb a j=lmb b j) b.length rfl rfl ⟨Nat.le_refl _,fun j h1 h2=>by omega⟩ ?_
  rintro k ⟨k1,k2⟩
  cases k with
  | zero=>
   have h0:¬(0:Int)≤0 - 1:=by omega
   have he:a=b:=val_same hl (fun j h=>k2 j (Nat.zero_le _) h)
   refine Wf0 h0 ?_
   rw [show ordN (valN a) (valN b)=0 by unfold ordN;rw [he,if_neg (Nat.lt_irrefl _),if_neg (Nat.lt_irrefl _)]]
   exact FnQ.ret rfl rfl
  | succ k=>
   have ia:k < a.length:=by omega
   have ib:k < b.length:=by omega
   obtain ⟨x,hx,_⟩:=get_of ia
   obtain ⟨y,hy,_⟩:=get_of ib
   obtain rfl:=size_of hs ia
   obtain rfl:=size_of ht ib
   have h0:(0:Int)≤(k:Int):=by omega
   have wk:IntKind.i64.wrap ((k:Int) - 1)=(k:Int) - 1:=wrap_i64 (by omega) (by omega)
   have xx:=lmb_of hx
   have yy:=lmb_of hy
   by_cases h1:x < y
   ·have h1':(x:Int) < y:=by omega
    refine Wf0 (Q5 h0 hx hy @nrow_eq (Q3 (iT ia) (iT ib) h1')) ?_
    rw [show ordN (valN a) (valN b)=-1 by unfold ordN;rw [if_pos (val_first ka kb hl ia (by rw [xx,yy];exact h1) (fun j h2 h3=>k2 j (by omega) h3))]]
    exact FnQ.ret rfl rfl
   by_cases h2:y < x
   ·have h1':¬(x:Int) < y:=by omega
    have h2':(y:Int) < x:=by omega
    refine Wf0 (Q5 h0 hx hy @nrow_eq (Q4 (iT ia) (iT ib) h1' h2')) ?_
    have hlt:=val_first kb ka hl.symm ib (by rw [xx,yy];exact h2) (fun j h2 h3=>(k2 j (by omega) (by omega)).symm)
    rw [show ordN (valN a) (valN b)=1 by unfold ordN;rw [if_neg (by omega),if_pos hlt]]
    exact FnQ.ret rfl rfl
   have h1':¬(x:Int) < y:=by omega
   have h2':¬(y:Int) < x:=by omega
   refine Wf0 (Q5 h0 hx hy @nrow_eq (Q5 (iT ia) (iT ib) h1' h2' wk)) ?_
   refine qW_n k rfl rfl ⟨by omega,by omega,fun j h3 h4=>?_⟩
   by_cases e:j=k
   ·subst e;rw [xx,yy];omega
   ·exact k2 j (by omega) h4
 ·have hl':¬(a.length:Int)=b.length:=by omega
  by_cases h:a.length < b.length
  ·have hlt:=val_len ka sb h
   have e1:((a.length:Int) - b.length) < 1:=by omega
   have e2:¬(-1:Int) < (a.length:Int) - b.length:=by omega
   refine Wf0 (Q5 hl hl' wd e1 e2) ?_
   rw [show ordN (valN a) (valN b)=-1 by unfold ordN;rw [if_pos hlt]]
   exact FnQ.ret rfl rfl
  ·have hlt:=val_len kb sa (by omega)
   have e1:¬((a.length:Int) - b.length) < 1:=by omega
   have e2:(-1:Int) < 1:=by omega
   refine Wf0 (Q5 hl hl' wd e1 e2) ?_
   rw [show ordN (valN a) (valN b)=1 by unfold ordN;rw [if_neg (by omega),if_pos hlt]]
   exact FnQ.ret rfl rfl
end Go.Proofs.YtigdhgbkgfagiaaGreat
namespace Go.Proofs.YtigdhgbkgfagiaaGreat
theorem wrap_u32 (n:Nat):IntKind.u32.wrap (n:Int)=((n % W32:Nat):Int):=by
 simp only [IntKind.wrap,IntKind.bits,IntKind.signed,Bool.false_and,if_false,Bool.false_eq_true,W32]
 omega
theorem wrap_u64 {n:Nat} (h:n < 18446744073709551616):IntKind.u64.wrap (n:Int)=n:=by
 simp only [IntKind.wrap,IntKind.bits,IntKind.signed,Bool.false_and,if_false,Bool.false_eq_true]
 omega
theorem shr_i {k j:IntKind} {x s:Nat} (h:s≤k.bits):binV .shr (.int k (x:Int)) (.int j (s:Int))=some (.int k ((x / 2 ^ s:Nat):Int)):=by
 have h0:¬(s:Int) < 0:=by omega
 have h1:Nat.min s k.bits=s:=Nat.min_eq_left h
 have h2:(x:Int).fdiv ((2 ^ s:Nat):Int)=((x / 2 ^ s:Nat):Int):=by
  rw [Int.fdiv_eq_ediv_of_nonneg _ (Int.natCast_nonneg _)];norm_cast
 simp only [binV,shiftInt,h0,if_false,Int.toNat_natCast,h1]
 rw [←h2];norm_cast
theorem shl_i {k j:IntKind} {x s:Nat} (h:s≤k.bits):binV .shl (.int k (x:Int)) (.int j (s:Int))=some (.int k (k.wrap ((x*2 ^ s:Nat):Int))):=by
 have h0:¬(s:Int) < 0:=by omega
 have h1:Nat.min s k.bits=s:=Nat.min_eq_left h
 simp only [binV,shiftInt,h0,if_false,Int.toNat_natCast,h1]
 norm_cast
variable {L:Lib} (hL:L.T=tab.get)
include hL
theorem add32_v {x y c:Nat} (hx:x < W32) (hy:y < W32) (hc:c < W32):VFn L 227 [.int .u32 x,.int .u32 y,.int .u32 c] (.tup [.int .u32 ((x+y+c) % W32:Nat),.int .u32 ((x+y+c) / W32:Nat)]):=by
 refine VFn.start (F:=T227.1) (by rw [hL];rfl) rfl rfl rfl ?_
 unfold W32 at hx hy hc
 have w1:=wrap_u64 (n:=x) (by omega)
 have w2:=wrap_u64 (n:=y) (by omega)
 have w3:=wrap_u64 (n:=c) (by omega)
 have w4:IntKind.u64.wrap ((x:Int)+(y:Int))=((x+y:Nat):Int):=by rw [←wrap_u64 (n:=x+y) (by omega)];norm_cast
 have w5:IntKind.u64.wrap (((x+y:Nat):Int)+(c:Int))=((x+y+c:Nat):Int):=by rw [←wrap_u64 (n:=x+y+c) (by omega)];norm_cast
 have w6:=wrap_u32 (x+y+c)
 have w7:IntKind.u32.wrap (((x+y+c) / 2 ^ 32:Nat):Int)=(((x+y+c) / W32:Nat):Int):=by
  rw [wrap_u32,Nat.mod_eq_of_lt]
  ·rfl
  ·unfold W32;omega
 have s1:binV .shr (.int .u64 ((x+y+c:Nat):Int)) (.int .u64 32)=some (.int .u64 (((x+y+c) / 2 ^ 32:Nat):Int)):=shr_i (s:=32) (by decide)
 generalize hq:(x+y+c) / 2 ^ 32=q at *
 generalize hp:(x+y+c) % W32=p at *
 generalize hr:(x+y+c) / W32=r at *
 generalize x+y+c=n at *
 generalize x+y=m at *
 refine Wf0 (Q5 w1 w2 w3 w4 (Q4 w5 w6 s1 w7)) ?_
 exact FnQ.ret rfl rfl
end Go.Proofs.YtigdhgbkgfagiaaGreat
namespace Go.Proofs.YtigdhgbkgfagiaaGreat
abbrev dgl (n:Nat):V:=tl nrow 1 (digN n) (some (digN n).length)
def fitV (n:Nat):V:=.tup [tl nrow (if n < W32 ^ 96 then 1 else 0) (if n < W32 ^ 96 then digN n else []) (some (if n < W32 ^ 96 then digN n else []).length),.int .i64 (if n < W32 ^ 96 then 0 else 30)]
theorem fit_in {n:Nat} (h:n < W32 ^ 96):fitV n=.tup [dgl n,.int .i64 0]:=by unfold fitV;rw [if_pos h,if_pos h,if_pos h]
theorem fit_out {n:Nat} (h:¬n < W32 ^ 96):fitV n=.tup [.lst 0 [] (some 0),.int .i64 30]:=by unfold fitV;rw [if_neg h,if_neg h,if_neg h];rfl
theorem sliceV_lst3 {α:Type} {f:α→List V} {l:List α} {c:Option Nat} {n:Nat} (h:n≤l.length):sliceV 1 (tl f 1 l c) (some none) (some (some n)) (some (some n))=some (tl f 1 (l.take n) (some n)):=by
 unfold sliceV tl
 simp [h,List.map_take]
variable {L:Lib} (hL:L.T=tab.get)
include hL
theorem trim_v {l:List Nat} {c:Option Nat} (hl:l.length < 4611686018427387904):VFn L 162 [tl nrow 1 l c] (tl nrow 1 (trimN l) (some (trimN l).length)):=by
 refine VFn.start (F:=T162.1) (by rw [hL];rfl) rfl rfl rfl ?_
 refine Wn0 ?_
 refine wWhile rfl (fun k:Nat=>[(0,tl nrow 1 l c),(3,V.int IntKind.i64 (k:Int))]) (fun _=>[]) (fun k=>k) (fun k=>k≤l.length∧∀i x,k≤i→l[i]?=some x→x=0) l.length rfl rfl ⟨Nat.le_refl _,fun i x h1 h2=>by rw [List.getElem?_eq_none h1] at h2;cases h2⟩ ?_
 rintro k ⟨k1,k2⟩
 cases k with
 | zero=>
  have h0:¬(0:Int) < 0:=by omega
  have hs:=sliceV_lst3 (f:=nrow) (c:=c) (Nat.zero_le l.length)
  have ht:l.take 0=trimN l:=take_trim (Nat.zero_le _) k2 (.inl rfl)
  have hn:(trimN l).length=0:=by rw [←ht];rfl
  refine Wf0 (Q2 h0 hs) ?_
  rw [hn,←ht]
  exact FnQ.ret rfl rfl
 | succ k=>
  have hk:k < l.length:=by omega
  obtain ⟨x,hx,_⟩:=get_of hk
  have h0:(0:Int) < (k:Int)+1:=by omega
  have hw:IntKind.i64.wrap ((k:Int)+1 - 1)=(k:Int):=by rw [wrap_i64 (by omega) (by omega)];omega
  have hw2:IntKind.i64.wrap (k:Int)=(k:Int):=wrap_nat (by omega)
  by_cases hx0:x=0
  ·subst hx0
   refine Wf0 (Q5 h0 hw hw2 (iT hk) (Q2 hx @nrow_eq)) ?_
   refine qW_n k rfl rfl ⟨by omega,by omega,fun i x h1 h2=>?_⟩
   by_cases e:i=k
   ·subst e;rw [hx] at h2;exact (Option.some.inj h2).symm
   ·exact k2 i x (by omega) h2
  ·have hx0':¬(x:Int)=0:=by omega
   have hs:=sliceV_lst3 (f:=nrow) (c:=c) k1
   have ht:l.take (k+1)=trimN l:=take_trim k1 k2 (.inr ⟨x,hx,hx0⟩)
   have hn:(trimN l).length=k+1:=by rw [←ht,List.length_take];omega
   refine Wf0 (Q5 h0 hw hw2 (iT hk) (Q4 hx @nrow_eq hx0' hs)) ?_
   rw [hn,←ht]
   exact FnQ.ret rfl rfl
theorem trim_dv {l:List Nat} {c:Option Nat} (k:limOk l) (hl:l.length < 4611686018427387904):VFn L 162 [tl nrow 1 l c] (dgl (valN l)):=by
 have h:=trim_v hL (c:=c) hl
 rwa [trim_dig k] at h
theorem nfits_v {l:List Nat} {c:Option Nat} (k:limOk l) (hl:l.length < 4611686018427387904):VFn L 191 [tl nrow 1 l c] (fitV (valN l)):=by
 refine VFn.start (F:=T191.1) (by rw [hL];rfl) rfl rfl rfl ?_
 by_cases hf:valN l < W32 ^ 96
 ·have h1:¬(96:Int) < (digN (valN l)).length:=by have:=digN_len.2 hf;omega
  rw [fit_in hf]
  refine Wf1 h1 (trim_dv hL (c:=c) k hl) ?_
  exact FnQ.ret rfl rfl
 ·have h1:(96:Int) < (digN (valN l)).length:=by have:=mt digN_len.1 hf;omega
  rw [fit_out hf]
  refine Wf1 h1 (trim_dv hL (c:=c) k hl) ?_
  exact FnQ.ret rfl rfl
end Go.Proofs.YtigdhgbkgfagiaaGreat
namespace Go.Proofs.YtigdhgbkgfagiaaGreat
theorem nrow_set {r:List Nat} {i x:Nat}:(r.map nrow).set i [.int .u32 (x:Int)]=(r.set i x).map nrow:=by rw [List.map_set];rfl
theorem cy_le {f:Nat→Nat} (hf:∀i,f i≤2*(W32 - 1)):∀n,cy f 0 n≤1
 | 0=>Nat.zero_le _
 | n+1=>by
  have h1:=hf n
  have h2:=cy_le hf n
  show (f n+cy f 0 n) / W32≤1
  unfold W32 at *
  omega
variable {L:Lib} (hL:L.T=tab.get)
include hL
end Go.Proofs.YtigdhgbkgfagiaaGreat
namespace Go.Proofs.YtigdhgbkgfagiaaGreat
theorem wrap_n32 {n:Nat} (h:n < W32):IntKind.u32.wrap (n:Int)=n:=by rw [wrap_u32,Nat.mod_eq_of_lt h]
theorem wrap_z32 (n:Int):IntKind.u32.wrap n=n % (W32:Int):=by
 simp only [IntKind.wrap,IntKind.bits,IntKind.signed,Bool.false_and,if_false,Bool.false_eq_true,W32]
 omega
theorem bv32 {x:Nat} (h:x < W32):(BitVec.ofInt 32 (x:Int)).toNat=x:=by
 rw [BitVec.toNat_ofInt]
 unfold W32 at h
 omega
theorem and_i {x y:Nat} (hx:x < W32) (hy:y < W32):binV .and (.int .u32 (x:Int)) (.int .u32 (y:Int))=some (.int .u32 ((x &&& y:Nat):Int)):=by
 have h:x &&& y < W32:=Nat.lt_of_le_of_lt Nat.and_le_left hx
 show some (V.int .u32 (IntKind.u32.wrap ((BitVec.ofInt 32 (x:Int) &&& BitVec.ofInt 32 (y:Int)).toNat:Int)))=_
 rw [BitVec.toNat_and,bv32 hx,bv32 hy,wrap_n32 h]
theorem or_i {x y:Nat} (hx:x < W32) (hy:y < W32):binV .or (.int .u32 (x:Int)) (.int .u32 (y:Int))=some (.int .u32 ((x ||| y:Nat):Int)):=by
 have h:x ||| y < W32:=Nat.or_lt_two_pow (n:=32) hx hy
 show some (V.int .u32 (IntKind.u32.wrap ((BitVec.ofInt 32 (x:Int) ||| BitVec.ofInt 32 (y:Int)).toNat:Int)))=_
 rw [BitVec.toNat_or,bv32 hx,bv32 hy,wrap_n32 h]
theorem xor_i {x y:Nat} (hx:x < W32) (hy:y < W32):binV .xor (.int .u32 (x:Int)) (.int .u32 (y:Int))=some (.int .u32 ((x ^^^ y:Nat):Int)):=by
 have h:x ^^^ y < W32:=Nat.xor_lt_two_pow (n:=32) hx hy
 show some (V.int .u32 (IntKind.u32.wrap ((BitVec.ofInt 32 (x:Int) ^^^ BitVec.ofInt 32 (y:Int)).toNat:Int)))=_
 rw [BitVec.toNat_xor,bv32 hx,bv32 hy,wrap_n32 h]
theorem not_i {x:Nat} (hx:x < W32):unV .xor (.int .u32 (x:Int))=some (.int .u32 ((W32 - 1 - x:Nat):Int)):=by
 have h:W32 - 1 - x < W32:=by unfold W32;omega
 show some (V.int .u32 (IntKind.u32.wrap ((BitVec.ofInt 32 4294967295 ^^^ BitVec.ofInt 32 (x:Int)).toNat:Int)))=_
 rw [show BitVec.ofInt 32 4294967295=BitVec.allOnes 32 by decide,BitVec.allOnes_xor,BitVec.toNat_not,bv32 hx]
 exact congrArg (fun v=>some (V.int .u32 v)) (wrap_n32 h)
theorem shr31_i {z q:Nat} (h:z / 2 ^ 31=q):binV .shr (.int .u32 (z:Int)) (.int .u64 31)=some (.int .u32 (q:Int)):=by
 rw [←h];exact shr_i (s:=31) (by decide)
theorem sub_wrap {x y b:Nat} (hx:x < W32) (hy:y < W32) (hb:b≤1):IntKind.u32.wrap (IntKind.u32.wrap ((x:Int) - y) - b)=(((x+W32 - y - b) % W32:Nat):Int):=by
 rw [wrap_z32,wrap_z32];unfold W32 at *;omega
theorem not_lt32 (x:Nat):W32 - 1 - x < W32:=by unfold W32;omega
theorem top_bit {n:Nat} (h:n < W32):n.testBit 31=decide (2147483648≤n):=by
 rw [Nat.testBit_eq_decide_div_mod_eq]
 unfold W32 at h
 congr 1;apply propext;omega
theorem top_sh {n:Nat} (h:n < W32):n / 2 ^ 31=if n.testBit 31 then 1 else 0:=by
 rw [top_bit h]
 unfold W32 at h
 by_cases e:2147483648≤n
 ·rw [decide_eq_true e,if_pos rfl];omega
 ·rw [decide_eq_false e,if_neg (by simp)];omega
theorem sub_bit {x y b:Nat} (hx:x < W32) (hy:y < W32) (hb:b≤1):(((W32 - 1 - x) &&& y) ||| ((W32 - 1 - (x ^^^ y)) &&& ((x+W32 - y - b) % W32))) / 2 ^ 31=if x < y+b then 1 else 0:=by
 have h0:x ^^^ y < W32:=Nat.xor_lt_two_pow (n:=32) hx hy
 have h1:W32 - 1 - x < W32:=by unfold W32;omega
 have h2:W32 - 1 - (x ^^^ y) < W32:=by unfold W32;omega
 have h3:(x+W32 - y - b) % W32 < W32:=Nat.mod_lt _ W32_pos
 have h4:(W32 - 1 - x) &&& y < W32:=Nat.lt_of_le_of_lt Nat.and_le_left h1
 have h5:(W32 - 1 - (x ^^^ y)) &&& ((x+W32 - y - b) % W32) < W32:=Nat.lt_of_le_of_lt Nat.and_le_left h2
 have h6:=Nat.or_lt_two_pow (n:=32) h4 h5
 have e0:decide (2147483648≤x ^^^ y)=(decide (2147483648≤x) ^^ decide (2147483648≤y)):=by rw [←top_bit h0,Nat.testBit_xor,top_bit hx,top_bit hy]
 rw [top_sh h6,Nat.testBit_or,Nat.testBit_and,Nat.testBit_and,top_bit h1,top_bit hy,top_bit h2,top_bit h3]
 have e1:decide (2147483648≤W32 - 1 - x)=!decide (2147483648≤x):=by
  unfold W32 at *;by_cases e:2147483648≤x <;> simp [e] <;> omega
 have e2:decide (2147483648≤W32 - 1 - (x ^^^ y))=!decide (2147483648≤x ^^^ y):=by
  generalize x ^^^ y=z at *
  unfold W32 at *;by_cases e:2147483648≤z <;> simp [e] <;> omega
 rw [e1,e2,e0]
 clear e0 e1 e2 h0 h1 h2 h3 h4 h5 h6
 unfold W32 at *
 by_cases p:2147483648≤x <;> by_cases q:2147483648≤y <;> by_cases r:x < y+b <;> simp [p,q,r] <;> omega
variable {L:Lib} (hL:L.T=tab.get)
include hL
theorem sub_go {x y b d q z m n u v w:Nat} (w1:IntKind.u32.wrap (IntKind.u32.wrap ((x:Int) - y) - b)=(d:Int))
    (s1:unV .xor (.int .u32 (x:Int))=some (.int .u32 (w:Int))) (s2:binV .and (.int .u32 (w:Int)) (.int .u32 (y:Int))=some (.int .u32 (v:Int)))
    (s3:binV .xor (.int .u32 (x:Int)) (.int .u32 (y:Int))=some (.int .u32 (u:Int))) (s4:unV .xor (.int .u32 (u:Int))=some (.int .u32 (n:Int)))
    (s5:binV .and (.int .u32 (n:Int)) (.int .u32 (d:Int))=some (.int .u32 (m:Int))) (s6:binV .or (.int .u32 (v:Int)) (.int .u32 (m:Int))=some (.int .u32 (z:Int)))
    (s7:binV .shr (.int .u32 (z:Int)) (.int .u64 31)=some (.int .u32 (q:Int))):VFn L 226 [.int .u32 x,.int .u32 y,.int .u32 b] (.tup [.int .u32 d,.int .u32 q]):=by
 refine VFn.start (F:=T226.1) (by rw [hL];rfl) rfl rfl rfl ?_
 refine Wf0 (Q5 w1 s1 s2 s3 (Q4 s4 s5 s6 s7)) ?_
 exact FnQ.ret rfl rfl
theorem sub32_v {x y b:Nat} (hx:x < W32) (hy:y < W32) (hb:b≤1):VFn L 226 [.int .u32 x,.int .u32 y,.int .u32 b] (.tup [.int .u32 ((x+W32 - y - b) % W32:Nat),.int .u32 (if x < y+b then 1 else 0:Nat)]):=
 have h0:x ^^^ y < W32:=Nat.xor_lt_two_pow (n:=32) hx hy
 have h1:W32 - 1 - x < W32:=not_lt32 x
 have h2:W32 - 1 - (x ^^^ y) < W32:=not_lt32 _
 have h3:(x+W32 - y - b) % W32 < W32:=Nat.mod_lt _ W32_pos
 sub_go hL (sub_wrap hx hy hb) (not_i hx) (and_i h1 hy) (xor_i hx hy) (not_i h0) (and_i h2 h3) (or_i (Nat.lt_of_le_of_lt Nat.and_le_left h1) (Nat.lt_of_le_of_lt Nat.and_le_left h2)) (shr31_i (sub_bit hx hy hb))
end Go.Proofs.YtigdhgbkgfagiaaGreat
namespace Go.Proofs.YtigdhgbkgfagiaaGreat
variable {L:Lib} (hL:L.T=tab.get)
include hL
theorem ncmp_v {s t:Nat} {a b:List Nat} {c d:Option Nat} (hs:s=1∨a=[]) (ht:t=1∨b=[]) (ka:limOk a) (kb:limOk b) (la:a.length≤96) (lb:b.length≤96) (sa:shortN a) (sb:shortN b):VFn L 124 [tl nrow s a c,tl nrow t b d] (.tup [.int .i64 (ordN (valN a) (valN b)),.int .i64 0]):=by
 have hb:bothN a b=0:=by unfold bothN;rw [if_pos (chk_zero.2 ⟨la,sa⟩)];exact chk_zero.2 ⟨lb,sb⟩
 refine VFn.start (F:=T124.1) (by rw [hL];rfl) rfl rfl rfl ?_
 refine Wf2 hb (nboth_v hL hs ht (by omega) (by omega)) (order_v hL hs ht (by omega) (by omega) ka kb sa sb) ?_
 exact FnQ.ret rfl rfl
end Go.Proofs.YtigdhgbkgfagiaaGreat
