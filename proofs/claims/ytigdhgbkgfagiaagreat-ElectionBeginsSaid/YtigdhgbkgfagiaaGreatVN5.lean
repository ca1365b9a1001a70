/- Numbers: long division, by the program, walked. · Numbers: divide, Div, Gcd, Same, by the program, walked. · Fractions: Check, Cmp, by the program, walked. -/
import Derived.Test.YtigdhgbkgfagiaaGreatVM1
import Derived.Test.YtigdhgbkgfagiaaGreatVM2
import Derived.Test.YtigdhgbkgfagiaaGreatVN4
set_option maxRecDepth 100000
set_option maxHeartbeats 4000000
set_option linter.unusedVariables false
set_option linter.unusedSimpArgs false
namespace Go.Proofs.YtigdhgbkgfagiaaGreat
theorem frz_refS' {α:Type} {f:α→List V} (hf:∀x,(f x).all V.closed=true) {H:Heap} {src:List (Option Nat)} {fz:List Nat} {a n:Nat} {l:List α} {c:Option Nat} (hn:0 < n) (hp:posIn src a 0=none) (ha:fz.contains a=true) (h:H.get a=some (.arr n (l.map f))):V.ren (sgOf H src fz) (.ref a n 0 l.length c)=tl f n l c:=by
 have:=frz_partS (l:=l) (t:=[]) (c:=c) hf hn hp ha (by rw [List.append_nil];exact h)
 exact this
theorem get_lmb {l:List Nat} {i:Nat} (h:i < l.length):l[i]?=some (lmb l i):=by rw [List.getElem?_eq_getElem h,lmb_of (List.getElem?_eq_getElem h)]
theorem ren_up_refn {n a s o m:Nat} {c:Option Nat}:V.ren (upσ n) (.ref a s o m c)=.ref (n+a) s o m c:=by simp [V.ren,upσ]
theorem back_n1 {B0 B1:Option Blk} {q:List Nat}:Heap.back [B0,B1] [1] [some (.arr 1 (q.map nrow))]=[B0,some (.arr 1 (q.map nrow))]:=by
 show [B0,Option.map (Blk.ren (outσ 2 [1])) (some (.arr 1 (q.map nrow)))]=_
 rw [Option.map_some,ren_tl closed_nrow]
theorem back_n0 {B0 B1:Option Blk} {q:List Nat}:Heap.back [B0,B1] [0] [some (.arr 1 (q.map nrow))]=[some (.arr 1 (q.map nrow)),B1]:=by
 show [Option.map (Blk.ren (outσ 2 [0])) (some (.arr 1 (q.map nrow))),B1]=_
 rw [Option.map_some,ren_tl closed_nrow]
variable {L:Lib} (hL:L.T=tab.get)
include hL
theorem long_v {a b:List Nat} {c d:Option Nat} (ka:limOk a) (kb:limOk b) (hb:shortN b) (two:2≤b.length) (le:b.length≤a.length) (la:a.length≤900):VFn L 208 [tl nrow 1 a c,tl nrow 1 b d] (.tup [dgl (valN a / valN b),dgl (valN a % valN b)]):=by
 obtain ⟨x,hx,_⟩:=get_of (show b.length - 1 < b.length by omega)
 have hxl:x < W32:=by have:=lmb_lt kb (b.length - 1);rwa [lmb_of hx] at this
 have hx0:0 < x:=by
  refine Nat.pos_of_ne_zero fun e=>hb ?_
  rw [List.getLast?_eq_getElem?,hx,e]
 obtain ⟨k,⟨k1,k2,k3⟩,hlz⟩:=nlz_v hL hx0 hxl
 have hxb:lmb b (b.length - 1)=x:=lmb_of hx
 obtain ⟨ld,htr⟩:=ld_of ka kb k1 (by rw [hxb];exact k2) (by rw [hxb];exact k3) two le
 have hsa:=shifted_m hL (c:=c) ka k1 (show a.length≤1000 by omega)
 have hsb:=shifted_m hL (c:=d) kb k1 (show b.length≤1000 by omega)
 have hta:=trim_a hL (l:=shL b k) (m:=b.length+1) (by rw [shL_len];exact Nat.le_refl _) (by rw [shL_len];omega)
 rw [htr,shL_len] at hta
 have hvl:((shL b k).take b.length).length=b.length:=ld.vl
 rw [hvl] at hta
 obtain ⟨t,hpt⟩:∃t,shL b k=(shL b k).take b.length++t:=⟨_,(List.take_append_drop b.length (shL b k)).symm⟩
 generalize (shL b k).take b.length=v at *
 obtain ⟨n,hn⟩:∃n,b.length=n+1:=⟨b.length - 1,by omega⟩
 have hlen:(b.length:Int)=(n:Int)+1:=by omega
 have hbn:n < b.length:=by omega
 rw [show b.length - 1=n by omega] at hx
 have wn:IntKind.i64.wrap (n:Int)=n:=wrap_nat (by omega)
 refine VFn.start (F:=T208.1) (by rw [hL];rfl) rfl rfl rfl ?_
 (repeat' (first|refine Z0 ?_|refine Z1 ?_|refine wDrawM [218] rfl rfl ?_|refine opsV_call (k:=217) rfl rfl (hlz) ?_|refine opsP_call (k:=217) rfl (hlz) ?_|refine opsV_make (k:=218) rfl rfl (hsa) ?_|(refine opsP_any (k:=.fn 218) rfl ((hsa).at _) ?_;rintro _ _ ⟨rfl,rfl⟩)|refine opsV_make (k:=218) rfl rfl (hsb) ?_|(refine opsP_any (k:=.fn 218) rfl ((hsb).at _) ?_;rintro _ _ ⟨rfl,rfl⟩)|simp only [seval,push_cast,↓reduceIte,↓bP_some,↓aP_true,reduceCtorEq,hlen,wn,iaQ_tl hbn,hx,nrow_eq,ren_up_refn,ren_tl closed_nrow,List.map_cons,List.map_nil,Option.map_some]))
 refine opsP_frm (k:=162) (vs':=[.ref 0 1 0 (b.length+1) (some (b.length+1))]) (H0:=[some (.arr 1 ((shL b k).map nrow))]) [1] (by rfl) rfl rfl (by rfl) (by exact sh_c (sh_b closed_nrow rfl) sh_n) hta ?_
 rintro r h' ⟨rfl,rfl⟩
 rw [back_n1,show V.ren (outσ _ [1]) (.ref 0 1 0 b.length (some b.length))=.ref 1 1 0 b.length (some b.length) from rfl]
 simp only [seval,push_cast,↓reduceIte,↓bP_some,↓aP_true,reduceCtorEq]
 have hfz:=frz_partS (l:=v) (t:=t) (c:=some b.length) (H:=[some (Blk.arr 1 ((shL a k).map nrow)),some (Blk.arr 1 ((shL b k).map nrow))]) (src:=[some 0]) (fz:=[1]) (a:=1) closed_nrow Nat.one_pos rfl rfl (by rw [hpt];rfl)
 rw [hvl] at hfz
 refine wShift [some 0] [1] (E1:=[(6,V.int IntKind.i64 (k:Int)),(7,V.ref 0 1 0 (a.length+1) (some (a.length+1))),(8,tl nrow 1 v (some b.length))]) (H1:=[some (Blk.arr 1 ((shL a k).map nrow))]) rfl (congrArg (fun w=>[(6,V.int IntKind.i64 (k:Int)),(7,V.ref 0 1 0 (a.length+1) (some (a.length+1))),(8,w)]) hfz) (sh_c (sh_b closed_nrow rfl) sh_n) ?_
 have hst:=ld.start
 obtain ⟨K,hK⟩:∃K,K=a.length+1 - b.length:=⟨_,rfl⟩
 rw [←hK] at hst
 have hvI:(v.length:Int)=(b.length:Int):=by omega
 have w1:IntKind.i64.wrap ((a.length:Int)+1 - (b.length:Int))=(K:Int):=by rw [wrap_i64 (by omega) (by omega)];omega
 have w2:IntKind.i64.wrap ((K:Int) - 1)=(K:Int) - 1:=wrap_i64 (by omega) (by omega)
 have r1:K*4≤140737488355328:=by omega
 have r2:K < 9223372036854775808:=by omega
 refine Wf0 (Q5 hvI w1 w2 r1 r2) ?_
 obtain ⟨p,hp⟩:∃p,b.length=p+2:=⟨b.length - 2,by omega⟩
 have hvp:v.length=p+2:=by omega
 have hVpos:=ld.V_pos
 refine wWhile rfl (fun s:Nat×(List Nat×List Nat)=>[(4,V.ref 1 1 0 K (some K)),(6,V.int IntKind.i64 (k:Int)),(7,V.ref 0 1 0 (a.length+1) (some (a.length+1))),(8,tl nrow 1 v (some b.length)),(9,V.int IntKind.i64 (b.length:Int)),(10,V.int IntKind.i64 ((s.1:Int) - 1))]) (fun s=>[some (Blk.arr 1 (s.2.1.map nrow)),some (Blk.arr 1 (s.2.2.map nrow))]) (fun s=>s.1) (fun s=>s.1≤K∧LI (shL a k) v s.1 s.2.1 s.2.2) (K,(shL a k,List.replicate K 0)) rfl (by rw [List.map_replicate];rfl) ⟨Nat.le_refl _,hst⟩ ?_
 rintro ⟨j,o,Q⟩ ⟨hjK,hI⟩
 simp only at hjK hI
 have hol:=hI.ol
 have hql:=hI.ql
 rw [shL_len] at hol hql
 have hQK:Q.length=K:=by omega
 cases j with
 | zero=>
  obtain ⟨hq,hr⟩:=ld.last hI
  have h0:¬(0:Int)≤0 - 1:=by omega
  have r3:b.length*4≤140737488355328:=by omega
  have r4:b.length < 9223372036854775808:=by omega
  refine Wf0 (Q3 h0 r3 r4) ?_
  refine wCntH rfl 74 b.length (fun _=>[]) (fun i=>[some (Blk.arr 1 (o.map nrow)),some (Blk.arr 1 (Q.map nrow)),some (Blk.arr 1 ((rmB o k b.length i).map nrow))]) (fun _=>True) rfl (by rw [rmB_zero,List.map_replicate];rfl) trivial ?_ ?_
  ·intro i hi _
   have hi1:i+1 < a.length+1:=by omega
   have hi0:i < a.length+1:=by omega
   have hsu:=wrap_succ (show i < 9223372036854775807 by omega)
   have e1:=get_lmb (l:=o) (i:=i+1) (by omega)
   have e0:=get_lmb (l:=o) (i:=i) (by omega)
   have b1:=lmb_lt hI.ok (i+1)
   have b0:=lmb_lt hI.ok i
   have s1:=wrap_u64 (lt64 b1)
   have s0:=wrap_u64 (lt64 b0)
   have s2:=shl32_i b1
   have s3:=or64_i b1 b0
   have s4:binV .shr (.int .u64 ((lmb o (i+1)*W32+lmb o i:Nat):Int)) (.int .i64 (k:Int))=some (.int .u64 (((lmb o (i+1)*W32+lmb o i) / 2 ^ k:Nat):Int)):=shr_i (by show k≤64;omega)
   have s5:=wrap_u32 ((lmb o (i+1)*W32+lmb o i) / 2 ^ k)
   have hset:=rmB_set (o:=o) (k:=k) hi
   have hget:=rmB_get (o:=o) (k:=k) hi
   rw [show shr (lmb o) k i=((lmb o (i+1)*W32+lmb o i) / 2 ^ k) % W32 from rfl] at hset
   generalize ((lmb o (i+1)*W32+lmb o i) / 2 ^ k) % W32=f at *
   generalize (lmb o (i+1)*W32+lmb o i) / 2 ^ k=e at *
   generalize lmb o (i+1)*W32+lmb o i=d at *
   generalize lmb o (i+1)*W32=d0 at *
   generalize lmb o (i+1)=y1 at *
   generalize lmb o i=y0 at *
   refine Wf0 (Q5 hi hi1 hi0 hsu (Q5 e1 e0 @nrow_eq @nrow_set (Q5 hget s0 s1 s2 (Q4 s3 s4 s5 hset)))) ?_
   exact qR_n rfl rfl trivial
  ·intro _
   have rl:=rmB_len (o:=o) (k:=k) (Nat.le_refl b.length)
   have rk:=rmB_ok (o:=o) (k:=k) (n:=b.length)
   have rv:=rmB_val (o:=o) (k:=k) (n:=b.length)
   rw [hr] at rv
   generalize rmB o k b.length b.length=R at *
   have f1:=frz_refS' (l:=Q) (c:=some K) (H:=[some (Blk.arr 1 (o.map nrow)),some (Blk.arr 1 (Q.map nrow)),some (Blk.arr 1 (R.map nrow))]) (src:=[]) (fz:=[1,2]) (a:=1) closed_nrow Nat.one_pos rfl rfl rfl
   have f2:=frz_refS' (l:=R) (c:=some b.length) (H:=[some (Blk.arr 1 (o.map nrow)),some (Blk.arr 1 (Q.map nrow)),some (Blk.arr 1 (R.map nrow))]) (src:=[]) (fz:=[1,2]) (a:=2) closed_nrow Nat.one_pos rfl rfl rfl
   rw [hQK] at f1
   rw [rl] at f2
   refine wShift [] [1,2] (E1:=[(4,tl nrow 1 Q (some K)),(5,tl nrow 1 R (some b.length)),(6,V.int IntKind.i64 (k:Int)),(7,V.bot),(73,V.int IntKind.i64 (b.length:Int)),(74,V.int IntKind.i64 (b.length:Int))]) (H1:=[]) rfl ?_ rfl ?_
   ·show [(4,V.ren _ (.ref 1 1 0 K (some K))),(5,V.ren _ (.ref 2 1 0 b.length (some b.length))),(6,_),(7,_),(73,_),(74,_)]=_
    rw [f1,f2];rfl
   have t1:=trim_dv hL (c:=some K) hI.qk (by omega)
   have t2:=trim_dv hL (c:=some b.length) rk (by omega)
   rw [hq] at t1
   rw [rv] at t2
   refine Wn2 t1 t2 ?_
   exact FnQ.ret rfl rfl
 | succ j=>
  have hjQ:j < Q.length:=by omega
  have g:=ld.guess (k:=j) shL_len hI hjQ
  rw [show v.length=p+2 from hvp,show j+(p+2) - 1=j+(p+1) by omega,show j+(p+2) - 2=j+p by omega,show p+2 - 1=p+1 by omega,show p+2 - 2=p by omega] at g
  have kg:=guess_a hL (c:=some b.length) (cp:=some (b.length+1)) (w:=b.length+1) (off:=j) (o:=o) hvp (get_lmb (by omega)) (get_lmb (by omega)) (get_lmb (by omega)) (get_lmb (by omega)) (get_lmb (by omega)) rfl g (lmb_lt hI.ok _) (lmb_lt hI.ok _) (lmb_lt ld.kv _) (by omega) (by omega) (by omega)
  have h0:(0:Int)≤(j:Int):=by omega
  have wj:IntKind.i64.wrap ((j:Int) - 1)=(j:Int) - 1:=wrap_i64 (by omega) (by omega)
  have w3:IntKind.i64.wrap ((j:Int)+(b.length:Int))=(j:Int)+(b.length:Int):=wrap_i64 (by omega) (by omega)
  have w4:IntKind.i64.wrap ((j:Int)+(b.length:Int)+1)=(j:Int)+(b.length:Int)+1:=wrap_i64 (by omega) (by omega)
  have nt3:V.nat? (.int IntKind.i64 ((j:Int)+(b.length:Int)+1))=some (j+b.length+1):=nat?_add1 (n:=j+b.length)
  have hsl:sliceV 1 (.ref 0 1 0 (a.length+1) (some (a.length+1))) (some (some j)) (some (some (j+b.length+1))) (some (some (j+b.length+1)))=some (.ref 0 1 j (b.length+1) (some (b.length+1))):=by
   rw [sliceV_ref3]
   simp only [Option.getD_some]
   rw [if_pos (by omega),show j+b.length+1 - j=b.length+1 by omega,Nat.zero_add]
  refine Wf0 (Q5 h0 w3 w4 nt3 hsl) ?_
  refine opsP_frm (k:=219) (vs':=[.ref 0 1 j (b.length+1) (some (b.length+1)),tl nrow 1 v (some b.length)]) (H0:=[some (.arr 1 (o.map nrow))]) [0] (by rfl) rfl rfl (by rfl) (by exact sh_c (sh_b closed_nrow rfl) sh_n) kg ?_
  rintro r h' ⟨⟨q,⟨g1,g2,g3⟩,rfl⟩,rfl⟩
  rw [back_n0,show V.ren (outσ _ [0]) (.int .u64 (q:Int))=.int .u64 (q:Int) from rfl]
  have kt:=takes_a hL (c:=some b.length) (cp:=some (b.length+1)) (w:=b.length+1) (off:=j) (q:=q) hI.ok ld.kv g3 (by omega) (by omega) (by omega)
  have hto:(tkO o j v q).length=o.length:=tkO_len (by omega)
  refine Wn0 ?_
  refine opsP_frm (k:=220) (vs':=[.ref 0 1 j (b.length+1) (some (b.length+1)),tl nrow 1 v (some b.length),.int .u64 (q:Int)]) (H0:=[some (.arr 1 (o.map nrow))]) [0] (by rfl) rfl rfl (by rfl) (by exact sh_c (sh_b closed_nrow rfl) sh_n) kt ?_
  rintro r h' ⟨rfl,rfl⟩
  rw [back_n0,show ∀bb:Bool,V.ren (outσ _ [0]) (.bool bb)=.bool bb from fun _=>rfl]
  have hjK':j < K:=by omega
  by_cases hbw:tkW o j v q=1
  ·rw [decide_eq_true hbw]
   obtain ⟨q1,hnx0⟩:=hI.back ld.kv hVpos hjQ g3 g1 g2 hbw
   have kb2:=back_a hL (s:=1) (c:=some b.length) (cp:=some (b.length+1)) (w:=b.length+1) (off:=j) (o:=tkO o j v q) (v:=v) (.inl rfl) (tkO_ok hI.ok) ld.kv (by omega) (by omega) (by omega)
   have wq:IntKind.u64.wrap ((q:Int) - 1)=((q - 1:Nat):Int):=by rw [show ((q:Int) - 1)=((q - 1:Nat):Int) by omega];exact wrap_u64 (lt64 (by omega))
   have w32:=wrap_n32 (n:=q - 1) (by omega)
   have hnx:LI (shL a k) v j (backO (tkO o j v q) j v) (Q.set j (q - 1)):=hnx0
   clear hnx0
   generalize q - 1=qn at *
   generalize backO (tkO o j v q) j v=o2 at *
   generalize tkO o j v q=o1 at *
   refine Wf0 wq ?_
   refine opsP_frm (k:=221) (vs':=[.ref 0 1 j (b.length+1) (some (b.length+1)),tl nrow 1 v (some b.length)]) (H0:=[some (.arr 1 (o1.map nrow))]) [0] (by rfl) rfl rfl (by rfl) (by exact sh_c (sh_b closed_nrow rfl) sh_n) kb2 ?_
   rintro r h' ⟨rfl,rfl⟩
   rw [back_n0,ren_tup0]
   obtain ⟨y,hy,_⟩:=get_of hjQ
   refine Wf0 (Q5 w32 hjK' hy @nrow_eq (Q2 @nrow_set wj)) ?_
   exact qW_n (j,(o2,Q.set j qn)) rfl rfl ⟨Nat.lt_succ_self j,(by show j≤K;omega),hnx⟩
  ·have hb0:tkW o j v q=0:=by have:=tk_bw (o:=o) (v:=v) (off:=j) (q:=q);omega
   rw [decide_eq_false hbw]
   have hnx:=hI.sub ld.kv hVpos hjQ g3 g1 g2 hb0
   have w32:=wrap_n32 g3
   generalize tkO o j v q=o1 at *
   obtain ⟨y,hy,_⟩:=get_of hjQ
   refine Wf0 (Q5 w32 hjK' hy @nrow_eq (Q2 @nrow_set wj)) ?_
   exact qW_n (j,(o1,Q.set j q)) rfl rfl ⟨Nat.lt_succ_self j,(by show j≤K;omega),hnx⟩
end Go.Proofs.YtigdhgbkgfagiaaGreat
namespace Go.Proofs.YtigdhgbkgfagiaaGreat
def Nv (r:V) (l:List Nat):Prop:=∃s c,(s=1∨l=[])∧r=tl nrow s l c
theorem Nv.dgl {n:Nat}:Nv (dgl n) (digN n):=⟨1,_,.inl rfl,rfl⟩
theorem Nv.nil:Nv (.lst 0 [] (some 0)) []:=⟨0,some 0,.inr rfl,rfl⟩
theorem Nv.closed {r:V} {l:List Nat} (h:Nv r l):r.closed=true:=by obtain ⟨s,c,_,rfl⟩:=h;rfl
theorem isnil_tl' {s:Nat} {l:List Nat} {c:Option Nat} (h:l≠[]):isnilQ 0 false (tl nrow s l c)=some (.bool false):=by
 have:¬l.length=0:=fun e=>h (List.length_eq_zero_iff.1 e)
 simp [isnilQ,isnilV,tl,this,h]
variable {L:Lib} (hL:L.T=tab.get)
include hL
theorem nclone_a {s:Nat} {a:List Nat} {c:Option Nat} (hs:s=1∨a=[]) (hl:a.length≤1000):AFn L (.fn 79) [tl nrow s a c] [] (fun r H'=>Nv r a∧H'=[]):=by
 by_cases hne:a=[]
 ·subst hne
  refine AFn.nilcase (s:=s) ?_ ?_
  ·refine AFn.of_body (F:=T79.1) (by rw [hL];rfl) rfl ?_
   (repeat' (first|refine Z0 ?_|refine Z3 ?_|refine Z2 ?_|simp only [seval,push_cast,↓reduceIte,↓bP_some,↓aP_true,reduceCtorEq]))
   exact FnQ.at rfl ⟨Nv.nil,rfl⟩
  ·refine AFn.of_body (F:=T79.1) (by rw [hL];rfl) rfl ?_
   (repeat' (first|refine Z0 ?_|refine Z3 ?_|refine Z2 ?_|simp only [seval,push_cast,↓reduceIte,↓bP_some,↓aP_true,reduceCtorEq,isnilQ_non]))
   exact FnQ.sh [] [0] rfl rfl rfl rfl ⟨⟨_,_,.inr rfl,rfl⟩,rfl⟩
 ·obtain rfl:=hs.resolve_right hne
  refine AFn.of_body (F:=T79.1) (by rw [hL];rfl) rfl ?_
  have hne':¬a.length≤0:=fun e=>hne (List.length_eq_zero_iff.1 (Nat.le_zero.1 e))
  have hroom:a.length*4≤140737488355328:=by omega
  (repeat' (first|refine Z0 ?_|refine Z3 ?_|refine Z2 ?_|simp only [seval,push_cast,↓reduceIte,↓bP_some,↓aP_true,reduceCtorEq,isnil_tl' hne,rowsOf_tl',hne',hroom]))
  exact FnQ.sh [] [1] rfl rfl (frz_refS' (l:=a) (n:=1) closed_nrow Nat.one_pos rfl rfl rfl) rfl ⟨⟨1,_,.inl rfl,rfl⟩,rfl⟩
theorem divide_a {s t:Nat} {a b:List Nat} {c d:Option Nat} (hs:s=1∨a=[]) (ht:t=1∨b=[]) (ka:limOk a) (kb:limOk b) (sa:shortN a) (sb:shortN b) (hb:b≠[]) (la:a.length≤900) (lb:b.length≤900) :
    AFn L (.fn 189) [tl nrow s a c,tl nrow t b d] [] (fun r H'=>(∃q w,Nv q (digN (valN a / valN b))∧Nv w (digN (valN a % valN b))∧r=.tup [q,w])∧H'=[]):=by
 obtain rfl:=ht.resolve_right hb
 have ko:=order_v hL (c:=c) (d:=d) hs (.inl rfl) (by omega) (by omega) ka kb sa sb
 refine AFn.of_body (F:=T189.1) (by rw [hL];rfl) rfl ?_
 by_cases hlt:valN a < valN b
 ·rw [show ordN (valN a) (valN b)=-1 from if_pos hlt] at ko
  have e1:digN (valN a / valN b)=[]:=by rw [Nat.div_eq_of_lt hlt];exact dig_zero
  have e2:digN (valN a % valN b)=a:=by rw [Nat.mod_eq_of_lt hlt];exact dig_of ka sa
  rw [e1,e2]
  refine Wn1 ko ?_
  refine opsP_any rfl (nclone_a hL hs (by omega)) ?_
  rintro r h' ⟨hr,rfl⟩
  have hv:=hr.closed
  refine Wn0 ?_
  exact FnQ.at rfl ⟨⟨_,r,Nv.nil,hr,rfl⟩,rfl⟩
 ·have hn:¬ordN (valN a) (valN b) < 0:=by unfold ordN;rw [if_neg hlt];split <;> omega
  generalize ordN (valN a) (valN b)=z at *
  by_cases h1:b.length=1
  ·obtain ⟨y,rfl⟩:∃y,b=[y]:=by
     cases b with
     | nil=>exact absurd rfl hb
     | cons y r=>cases r with
      | nil=>exact ⟨y,rfl⟩
      | cons _ _=>simp at h1
   have hy:y < W32:=kb y (by simp)
   have hy0:0 < y:=Nat.pos_of_ne_zero fun e=>sb (by simp [e])
   have ks:=small_v hL (c:=c) hs ka hy0 hy (by omega)
   rw [show valN [y]=y by simp [valN]]
   have hr:valN a % y < W32:=Nat.lt_trans (Nat.mod_lt _ hy0) hy
   generalize valN a % y=m at *
   generalize valN a / y=q0 at *
   have ktr:=trim_a hL (l:=[m]) (m:=1) (by simp) (by simp)
   obtain ⟨t,ht'⟩:=trimN_pre [m]
   have hd:trimN [m]=digN m:=by
    rw [trim_dig (limOk_cons.2 ⟨hr,limOk_nil⟩)]
    simp [valN]
   have h0:0 < ([y]:List Nat).length:=by simp
   (repeat' (first|refine Z0 ?_|refine Z1 ?_|refine Z2 ?_|refine opsV_call (k:=161) rfl rfl (ko) ?_|refine opsP_call (k:=161) rfl (ko) ?_|refine opsV_call (k:=207) rfl rfl (ks) ?_|refine opsP_call (k:=207) rfl (ks) ?_|simp only [seval,push_cast,↓reduceIte,↓bP_some,↓aP_true,reduceCtorEq,hn,List.length_singleton,iaQ_tl h0,nrow_eq]))
   refine opsP_all (vs:=[.ref 0 1 0 1 (some 1)]) rfl ktr ?_
   rintro r h' ⟨rfl,rfl⟩
   rw [hd] at ht' ⊢
   refine Wn0 ?_
   refine FnQ.sh [] [0] rfl rfl (r:=.tup [dgl q0,dgl m]) ?_ rfl ⟨⟨_,_,Nv.dgl,Nv.dgl,rfl⟩,rfl⟩
   show V.tup [V.ren _ (dgl q0),V.ren _ (.ref 0 1 0 (digN m).length (some (digN m).length))]=_
   rw [frz_partS (l:=digN m) (t:=t) closed_nrow Nat.one_pos rfl rfl (by rw [←ht'];rfl)]
   rfl
  ·have kl:=long_v hL (c:=c) (d:=d) ka kb sb (by have:=List.length_pos_iff.2 hb;omega) (Nat.le_of_not_lt fun h=>hlt (val_len ka sb h)) la
   obtain rfl:s=1:=hs.resolve_right fun e=>by subst e;exact hlt (short_val_pos sb hb)
   have h1':¬(b.length:Int)=1:=by omega
   refine Wf2 (Q2 hn h1') ko kl ?_
   exact FnQ.at rfl ⟨⟨_,_,Nv.dgl,Nv.dgl,rfl⟩,rfl⟩
structure GcI (G:Nat) (s:(List Nat×Nat×Option Nat)×(List Nat×Nat×Option Nat)):Prop where
 ha:s.1.2.1=1∨s.1.1=[]
 hb:s.2.2.1=1∨s.2.1=[]
 ka:limOk s.1.1
 kb:limOk s.2.1
 sa:shortN s.1.1
 sb:shortN s.2.1
 la:s.1.1.length≤96
 lb:s.2.1.length≤96
 g:Nat.gcd (valN s.1.1) (valN s.2.1)=G
theorem nGcd_a {s t:Nat} {a b:List Nat} {c d:Option Nat} (hs:s=1∨a=[]) (ht:t=1∨b=[]) (ka:limOk a) (kb:limOk b) (sa:shortN a) (sb:shortN b) (la:a.length≤96) (lb:b.length≤96) :
    AFn L (.fn 158) [tl nrow s a c,tl nrow t b d] [] (fun r H'=>(∃g,Nv g (digN (Nat.gcd (valN a) (valN b)))∧r=.tup [g,.int .i64 0])∧H'=[]):=by
 have hbo:bothN a b=0:=by unfold bothN;rw [if_pos (chk_zero.2 ⟨la,sa⟩)];exact chk_zero.2 ⟨lb,sb⟩
 have kb2:=nboth_v hL (c:=c) (d:=d) hs ht (by omega) (by omega)
 rw [hbo] at kb2
 refine AFn.of_body (F:=T158.1) (by rw [hL];rfl) rfl ?_
 refine Wn1 kb2 ?_
 refine opsP_any rfl (nclone_a hL (c:=c) hs (by omega)) ?_
 rintro r h' ⟨⟨s0,c0,hs0,rfl⟩,rfl⟩
 refine Wn0 ?_
 refine wWhile rfl (fun s:(List Nat×Nat×Option Nat)×(List Nat×Nat×Option Nat)=>[(0,tl nrow s.1.2.1 s.1.1 s.1.2.2),(1,tl nrow s.2.2.1 s.2.1 s.2.2.2)]) (fun _=>[]) (fun s=>valN s.2.1) (GcI (Nat.gcd (valN a) (valN b))) ((a,s0,c0),(b,t,d)) rfl rfl ⟨hs0,ht,ka,kb,sa,sb,la,lb,rfl⟩ ?_
 rintro ⟨⟨a',s',c'⟩,⟨b',t',d'⟩⟩ hI
 obtain ⟨i1,i2,i3,i4,i5,i6,i7,i8,i9⟩:=hI
 simp only at i1 i2 i3 i4 i5 i6 i7 i8 i9
 by_cases hb':b'=[]
 ·subst hb'
  have hg:digN (Nat.gcd (valN a) (valN b))=a':=by
   rw [←i9,show valN []=0 from rfl,Nat.gcd_zero_right]
   exact dig_of i3 i5
  rw [hg]
  refine Xn0 ?_
  refine opsP_any rfl (nclone_a hL (c:=c') i1 (by omega)) ?_
  rintro r h' ⟨hr,rfl⟩
  refine Wn0 ?_
  exact FnQ.at rfl ⟨⟨r,hr,rfl⟩,rfl⟩
 ·have h0:(0:Int) < (b'.length:Int):=by have:=List.length_pos_iff.2 hb';omega
  have hpos:=short_val_pos i6 hb'
  have hlt:=Nat.mod_lt (valN a') hpos
  refine Wf0 h0 ?_
  refine opsP_any rfl (divide_a hL (c:=c') (d:=d') i1 i2 i3 i4 i5 i6 hb' (by omega) (by omega)) ?_
  rintro r h' ⟨⟨q,w,hq,⟨s2,c2,hs2,rfl⟩,rfl⟩,rfl⟩
  have hl2:(digN (valN a' % valN b')).length≤96:=digN_len.2 (Nat.lt_trans hlt (Nat.lt_of_lt_of_le (valN_lt i4) (Nat.pow_le_pow_right W32_pos i8)))
  refine Wn0 ?_
  exact qW_n ((b',t',d'),(digN (valN a' % valN b'),s2,c2)) rfl rfl ⟨by show valN (digN _) < valN b';rw [dig_val];exact hlt,i2,hs2,i4,dig_ok,i6,dig_short,i8,hl2,by show Nat.gcd (valN b') (valN (digN _))=_;rw [dig_val,←i9,Nat.gcd_comm (valN b'),←Nat.gcd_rec,Nat.gcd_comm]⟩
theorem nequal_v {s t:Nat} {a b:List Nat} {c d:Option Nat} (hs:s=1∨a=[]) (ht:t=1∨b=[]) (la:a.length < 4611686018427387904) (lb:b.length < 4611686018427387904):VFn L 170 [tl nrow s a c,tl nrow t b d] (.bool (decide (a=b))):=by
 refine VFn.start (F:=T170.1) (by rw [hL];rfl) rfl rfl rfl ?_
 by_cases hlen:a.length=b.length
 ·refine Wf0 hlen ?_
  refine wCnt rfl 13 b.length (fun _=>[]) (fun j=>a.take j=b.take j) rfl rfl ?_ ?_
  ·intro j hj hI
   have hj2:j < a.length:=by omega
   obtain ⟨x,hx,_⟩:=get_of hj2
   obtain ⟨y,hy,_⟩:=get_of hj
   obtain rfl:=size_of hs hj2
   obtain rfl:=size_of ht hj
   have hw:=wrap_succ (show j < 9223372036854775807 by omega)
   by_cases e:x=y
   ·subst e
    refine Wf0 (Q5 (iT hj2) (iT hj) hx hy (Q3 hj hw @nrow_eq)) ?_
    exact qR_n rfl rfl (by rw [take_snoc hx,take_snoc hy,hI])
   ·have e':¬(x:Int)=(y:Int):=by omega
    refine Wf0 (Q5 (iT hj2) (iT hj) hx hy (Q4 hj hw @nrow_eq e')) ?_
    rw [decide_eq_false fun e2=>e (by subst e2;rw [hx] at hy;exact Option.some.inj hy)]
    exact FnQ.ret rfl rfl
  ·intro hI
   rw [take_all,List.take_of_length_le (by omega)] at hI
   refine Wn0 ?_
   rw [decide_eq_true hI]
   exact FnQ.ret rfl rfl
 ·have hl':¬(a.length:Int)=(b.length:Int):=by omega
  refine Wf0 hl' ?_
  rw [decide_eq_false fun e=>hlen (by rw [e])]
  exact FnQ.ret rfl rfl
theorem nSame_v {s t:Nat} {a b:List Nat} {c d:Option Nat} (hs:s=1∨a=[]) (ht:t=1∨b=[]) (la:a.length < 4611686018427387904) (lb:b.length < 4611686018427387904):VFn L 145 [tl nrow s a c,tl nrow t b d] (.bool (decide (a=b))):=by
 have k:=nequal_v hL (c:=c) (d:=d) hs ht la lb
 refine VFn.start (F:=T145.1) (by rw [hL];rfl) rfl rfl rfl ?_
 refine Wn1 k ?_
 exact FnQ.ret rfl rfl
end Go.Proofs.YtigdhgbkgfagiaaGreat
namespace Go.Proofs.YtigdhgbkgfagiaaGreat
theorem opsP_cl {L:Lib} {l:List AI} {K:Env→Heap→Prop} {E:Env} {H:Heap} {d:Option Nat} {anc:List Nat} {c:ACallee} {args:List AOpd} {k:Nat} {vs:List V} {P:V→Prop} (hv:callee L.G E.get c args=some (.fn k,vs)) (hvc:V.closeds vs=true) (hf:AFn L (.fn k) vs [] (fun r H'=>P r∧H'=[])) (hc:∀r,P r→r.closed=true) (h:∀r,P r→opsP L l K (E.put d r) H):opsP L (⟨d,.call c args,none,anc⟩::l) K E H:=by
 refine opsP_frm (k:=k) (vs:=vs) (vs':=vs) (H0:=[]) [] hv rfl rfl (by rw [←V.rens_map];exact V.rens_closed _ hvc) rfl hf ?_
 rintro r h' ⟨hp,rfl⟩
 have e2:H.back [] []=H:=by simp [Heap.back,Heap.upds]
 rw [V.ren_closed _ (hc r hp),e2]
 exact h r hp
structure Fr where
 neg:Bool
 num:List Nat
 den:List Nat
def frV (x:Fr) (s:Nat) (c:Option Nat) (t:Nat) (d:Option Nat):V:=.agg [.bool x.neg,tl nrow s x.num c,tl nrow t x.den d]
def okFr (x:Fr):Prop:=chkN x.num=0∧chkN x.den=0∧x.den≠[]∧¬(x.neg=true∧x.num=[])∧Nat.gcd (valN x.num) (valN x.den)=1
instance (x:Fr):Decidable (okFr x):=by unfold okFr;infer_instance
def gOne (G:Nat):Int:=if G=1 then 0 else 8
def sideN (x:Fr):Int:=if x.num=[] then 0 else if x.neg then -1 else 1
theorem dig_one:digN 1=[1]:=by rw [dig_pos (by decide),show 1 / W32=0 from rfl,dig_zero];rfl
theorem dig_eq_one {n:Nat}:digN n=[1]↔n=1:=by
 constructor
 ·intro h
  have:=congrArg valN h
  rw [dig_val] at this
  simpa [valN] using this
 ·rintro rfl;exact dig_one
variable {L:Lib} (hL:L.T=tab.get)
include hL
theorem rone_v:VFn L 127 [] (tl nrow 1 [1] (some 1)):=by
 refine VFn.start (F:=T127.1) (by rw [hL];rfl) rfl rfl rfl ?_
 refine Wn0 ?_
 exact FnQ.frz [0] rfl rfl
theorem fcheck_v {x:Fr} {s t:Nat} {c d:Option Nat} (hs:s=1∨x.num=[]) (ht:t=1∨x.den=[]) (ln:x.num.length < 4611686018427387904) (lm:x.den.length < 4611686018427387904) (kn:limOk x.num) (kd:limOk x.den):VFn L 121 [frV x s c t d] (.int .i64 (if okFr x then 0 else 8)):=by
 have k1:=ncheck_v hL (c:=c) hs ln
 have k2:=ncheck_v hL (c:=d) ht lm
 have ko:=rone_v hL
 obtain ⟨neg,num,den⟩:=x
 unfold frV
 simp only at *
 by_cases e1:chkN num=0
 ·by_cases e2:chkN den=0
  ·by_cases e3:den=[]
   ·rw [if_neg (fun h=>h.2.2.1 e3)]
    subst e3
    rw [e1] at k1
    rw [e2] at k2
    refine VFn.start (F:=T121.1) (by rw [hL];rfl) rfl rfl rfl ?_
    refine Xn2 k1 k2 ?_
    exact FnQ.ret rfl rfl
   ·have h0:¬(den.length:Int)=0:=by have:=List.length_pos_iff.2 e3;omega
    by_cases e4:neg=true∧num=[]
    ·rw [if_neg (fun h=>h.2.2.2.1 e4)]
     obtain ⟨rfl,rfl⟩:=e4
     rw [e1] at k1
     rw [e2] at k2
     refine VFn.start (F:=T121.1) (by rw [hL];rfl) rfl rfl rfl ?_
     refine Xf2 h0 k1 k2 ?_
     exact FnQ.ret rfl rfl
    ·obtain ⟨la,sa⟩:=chk_zero.1 e1
     obtain ⟨lb,sb⟩:=chk_zero.1 e2
     have kg:=nGcd_a hL (c:=c) (d:=d) hs ht kn kd sa sb la lb
     have hres:(if okFr ⟨neg,num,den⟩ then (0:Int) else 8)=gOne (Nat.gcd (valN num) (valN den)):=by
      unfold gOne
      by_cases hg:Nat.gcd (valN num) (valN den)=1
      ·rw [if_pos hg,if_pos ⟨e1,e2,e3,e4,hg⟩]
      ·rw [if_neg hg,if_neg (fun h=>hg h.2.2.2.2)]
     rw [hres]
     clear hres
     have hpd:=short_val_pos sb e3
     have hGl:(digN (Nat.gcd (valN num) (valN den))).length≤96:=digN_len.2 (Nat.lt_of_le_of_lt (Nat.gcd_le_right _ hpd) (Nat.lt_of_lt_of_le (valN_lt kd) (Nat.pow_le_pow_right W32_pos lb)))
     rw [e1] at k1
     rw [e2] at k2
     generalize Nat.gcd (valN num) (valN den)=G at *
     refine VFn.start (F:=T121.1) (by rw [hL];rfl) rfl rfl rfl ?_
     have hgo:gOne G=if digN G=[1] then 0 else 8:=by
      unfold gOne
      by_cases hg:G=1
      ·rw [if_pos hg,if_pos (dig_eq_one.2 hg)]
      ·rw [if_neg hg,if_neg (fun e=>hg (dig_eq_one.1 e))]
     rw [hgo]
     clear hgo
     generalize digN G=g at *
     cases neg with
     | true=>
      have hn:¬(num.length:Int)=0:=by
       have:num≠[]:=fun e=>e4 ⟨rfl,e⟩
       have:=List.length_pos_iff.2 this
       omega
      refine Wf2 (Q2 h0 hn) k1 k2 ?_
      refine opsP_cl (k:=158) (vs:=[tl nrow s num c,tl nrow t den d]) (P:=fun r=>∃g1,Nv g1 g∧r=.tup [g1,.int .i64 0]) rfl rfl kg (by rintro r ⟨g1,hg1,rfl⟩;show (g1.closed&&(true&&true))=true;rw [hg1.closed];rfl) ?_
      rintro r ⟨g1,⟨s2,c2,hs2,rfl⟩,rfl⟩
      have ks:=nSame_v hL (a:=g) (b:=[1]) (c:=c2) (d:=some 1) hs2 (.inl rfl) (by omega) (by decide)
      by_cases hg:g=[1]
      ·rw [decide_eq_true hg] at ks
       rw [if_pos hg]
       refine Wn2 ko ks ?_
       exact FnQ.ret rfl rfl
      ·rw [decide_eq_false hg] at ks
       rw [if_neg hg]
       refine Wn2 ko ks ?_
       exact FnQ.ret rfl rfl
     | false=>
      refine Wf2 h0 k1 k2 ?_
      refine opsP_cl (k:=158) (vs:=[tl nrow s num c,tl nrow t den d]) (P:=fun r=>∃g1,Nv g1 g∧r=.tup [g1,.int .i64 0]) rfl rfl kg (by rintro r ⟨g1,hg1,rfl⟩;show (g1.closed&&(true&&true))=true;rw [hg1.closed];rfl) ?_
      rintro r ⟨g1,⟨s2,c2,hs2,rfl⟩,rfl⟩
      have ks:=nSame_v hL (a:=g) (b:=[1]) (c:=c2) (d:=some 1) hs2 (.inl rfl) (by omega) (by decide)
      by_cases hg:g=[1]
      ·rw [decide_eq_true hg] at ks
       rw [if_pos hg]
       refine Wn2 ko ks ?_
       exact FnQ.ret rfl rfl
      ·rw [decide_eq_false hg] at ks
       rw [if_neg hg]
       refine Wn2 ko ks ?_
       exact FnQ.ret rfl rfl
  ·rw [if_neg (fun h=>e2 h.2.1)]
   rw [e1] at k1
   refine VFn.start (F:=T121.1) (by rw [hL];rfl) rfl rfl rfl ?_
   refine Wf2 e2 k1 k2 ?_
   exact FnQ.ret rfl rfl
 ·rw [if_neg (fun h=>e1 h.1)]
  refine VFn.start (F:=T121.1) (by rw [hL];rfl) rfl rfl rfl ?_
  refine Wf1 e1 k1 ?_
  exact FnQ.ret rfl rfl
theorem fside_v {x:Fr} {s t:Nat} {c d:Option Nat} (ln:x.num.length < 4611686018427387904):VFn L 122 [frV x s c t d] (.int .i64 (sideN x)):=by
 obtain ⟨neg,num,den⟩:=x
 unfold frV sideN
 simp only at *
 by_cases h:num=[]
 ·subst h
  rw [if_pos rfl]
  refine VFn.start (F:=T122.1) (by rw [hL];rfl) rfl rfl rfl ?_
  refine Xn0 ?_
  exact FnQ.ret rfl rfl
 ·have h0:¬(num.length:Int)=0:=by have:=List.length_pos_iff.2 h;omega
  rw [if_neg h]
  cases neg with
  | true=>
   refine VFn.start (F:=T122.1) (by rw [hL];rfl) rfl rfl rfl ?_
   refine Wf0 h0 ?_
   exact FnQ.ret rfl rfl
  | false=>
   refine VFn.start (F:=T122.1) (by rw [hL];rfl) rfl rfl rfl ?_
   refine Wf0 h0 ?_
   exact FnQ.ret rfl rfl
theorem fcrossed_v {x y:Fr} {s t u w:Nat} {c d e f:Option Nat} (hs:s=1∨x.num=[]) (ht:t=1∨x.den=[]) (hu:u=1∨y.num=[]) (hw:w=1∨y.den=[]) (kx:limOk x.num∧limOk x.den) (ky:limOk y.num∧limOk y.den) (ox:okFr x) (oy:okFr y) (f1:valN x.num*valN y.den < W32 ^ 96) (f2:valN y.num*valN x.den < W32 ^ 96):VFn L 123 [.agg [.bool x.neg,tl nrow s x.num c,tl nrow t x.den d,.bool y.neg,tl nrow u y.num e,tl nrow w y.den f]] (.tup [dgl (valN x.num*valN y.den),dgl (valN y.num*valN x.den),.int .i64 0]):=by
 obtain ⟨a1,a2⟩:=chk_zero.1 ox.1
 obtain ⟨b1,b2⟩:=chk_zero.1 ox.2.1
 obtain ⟨c1,c2⟩:=chk_zero.1 oy.1
 obtain ⟨d1,d2⟩:=chk_zero.1 oy.2.1
 have m1:=nmul_v hL (c:=c) (d:=f) hs hw kx.1 ky.2 a1 d1 a2 d2
 have m2:=nmul_v hL (c:=e) (d:=d) hu ht ky.1 kx.2 c1 b1 c2 b2
 rw [fit_in f1] at m1
 rw [fit_in f2] at m2
 refine VFn.start (F:=T123.1) (by rw [hL];rfl) rfl rfl rfl ?_
 refine Wn2 m1 m2 ?_
 exact FnQ.ret rfl rfl
def clampI (z:Int):Int:=if -1 < (if z < 1 then z else 1) then (if z < 1 then z else 1) else -1
def cmpFr (x y:Fr):Int:=if sideN x≠sideN y∨sideN x=0 then clampI (sideN x - sideN y) else sideN x*ordN (valN x.num*valN y.den) (valN y.num*valN x.den)
omit hL in
theorem side_in (x:Fr):-1≤sideN x∧sideN x≤1:=by unfold sideN;split <;> (try split) <;> omega
omit hL in
theorem ord_in (x y:Nat):-1≤ordN x y∧ordN x y≤1:=by unfold ordN;split <;> (try split) <;> omega
theorem fcmp_v {x y:Fr} {s t u w:Nat} {c d e f:Option Nat} (hs:s=1∨x.num=[]) (ht:t=1∨x.den=[]) (hu:u=1∨y.num=[]) (hw:w=1∨y.den=[]) (kx:limOk x.num∧limOk x.den) (ky:limOk y.num∧limOk y.den) (ox:okFr x) (oy:okFr y) (f1:valN x.num*valN y.den < W32 ^ 96) (f2:valN y.num*valN x.den < W32 ^ 96):VFn L 66 [frV x s c t d,frV y u e w f] (.tup [.int .i64 (cmpFr x y),.int .i64 0]):=by
 obtain ⟨a1,a2⟩:=chk_zero.1 ox.1
 obtain ⟨b1,b2⟩:=chk_zero.1 ox.2.1
 obtain ⟨c1,c2⟩:=chk_zero.1 oy.1
 obtain ⟨d1,d2⟩:=chk_zero.1 oy.2.1
 have k1:=fcheck_v hL (c:=c) (d:=d) hs ht (by omega) (by omega) kx.1 kx.2
 have k2:=fcheck_v hL (c:=e) (d:=f) hu hw (by omega) (by omega) ky.1 ky.2
 rw [if_pos ox] at k1
 rw [if_pos oy] at k2
 have s1:=fside_v hL (x:=x) (s:=s) (t:=t) (c:=c) (d:=d) (by omega)
 have s2:=fside_v hL (x:=y) (s:=u) (t:=w) (c:=e) (d:=f) (by omega)
 have kx2:=fcrossed_v hL (c:=c) (d:=d) (e:=e) (f:=f) hs ht hu hw kx ky ox oy f1 f2
 have hsx:=side_in x
 have hsy:=side_in y
 have kc:=ncmp_v hL (a:=digN (valN x.num*valN y.den)) (b:=digN (valN y.num*valN x.den)) (c:=some (digN (valN x.num*valN y.den)).length) (d:=some (digN (valN y.num*valN x.den)).length) (s:=1) (t:=1) (.inl rfl) (.inl rfl) dig_ok dig_ok (digN_len.2 f1) (digN_len.2 f2) dig_short dig_short
 rw [dig_val,dig_val] at kc
 have ho:=ord_in (valN x.num*valN y.den) (valN y.num*valN x.den)
 unfold cmpFr
 unfold frV at *
 generalize sideN x=p at *
 generalize sideN y=q at *
 generalize ordN (valN x.num*valN y.den) (valN y.num*valN x.den)=z at *
 generalize valN x.num*valN y.den=A at *
 generalize valN y.num*valN x.den=B at *
 have w1:IntKind.i64.wrap (p - q)=p - q:=wrap_i64 (by omega) (by omega)
 by_cases h1:p=q
 ·subst h1
  by_cases h2:p=0
  ·subst h2
   rw [if_pos (.inr rfl)]
   refine VFn.start (F:=T66.1) (by rw [hL];rfl) rfl rfl rfl ?_
   refine Wf4 (Q2 w1 (show IntKind.i64.wrap 0=0 by decide)) k1 k2 s1 s2 ?_
   exact FnQ.ret rfl rfl
  ·rw [if_neg (by omega)]
   have w2:IntKind.i64.wrap (p*z)=p*z:=by
    have:p=1∨p=-1:=by omega
    rcases this with rfl|rfl
    ·rw [Int.one_mul];exact wrap_i64 (by omega) (by omega)
    ·rw [show (-1:Int)*z=-z by omega];exact wrap_i64 (by omega) (by omega)
   refine VFn.start (F:=T66.1) (by rw [hL];rfl) rfl rfl rfl ?_
   refine Wf6 (Q3 w1 h2 w2) k1 k2 s1 s2 kx2 kc ?_
   exact FnQ.ret rfl rfl
 ·rw [if_pos (.inl h1)]
  refine VFn.start (F:=T66.1) (by rw [hL];rfl) rfl rfl rfl ?_
  refine Wf4 (Q2 w1 h1) k1 k2 s1 s2 ?_
  exact FnQ.ret rfl rfl
end Go.Proofs.YtigdhgbkgfagiaaGreat
