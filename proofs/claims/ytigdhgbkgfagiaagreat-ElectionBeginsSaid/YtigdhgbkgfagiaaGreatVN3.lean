/- Numbers: a limb times a number, added in place. · Numbers: times (in place), by the program, walked. · Numbers: Mul, by the program, walked. · Numbers: Div32, by the program, walked. · Numbers: small (divided by one limb), by the program, walked. · Numbers: back (added in place), by the program, walked. · Numbers: a window of limbs, added to. · Numbers: the length of a word; a number shifted to the left, as its limbs are made. Nothing of the program is named here. · Numbers: a multiple taken away in place, and what it leaves. Nothing of the program is named here. · Long division, digit after digit. Nothing of the program is named here. · Long division: its start, its end, and the guesses. Nothing of the program is named here. -/
import Derived.Test.YtigdhgbkgfagiaaGreatVN1
import Derived.Test.YtigdhgbkgfagiaaGreatVM2
import Derived.Test.YtigdhgbkgfagiaaGreatVN2
set_option maxRecDepth 100000
set_option maxHeartbeats 4000000
namespace Go.Proofs.YtigdhgbkgfagiaaGreat
def tmF (o:List Nat) (off:Nat) (a:List Nat) (n i:Nat):Nat:=lmb a i*n+lmb o (off+i)
def timesO (o:List Nat) (off:Nat) (a:List Nat) (n:Nat):List Nat:=o.take off++(lm (tmF o off a n) 0 a.length++((lmb o (off+a.length)+cy (tmF o off a n) 0 a.length) % W32::o.drop (off+a.length+1)))
theorem tmF_lt {o a:List Nat} (ko:limOk o) (ka:limOk a) {n:Nat} (hn:n < W32) (off i:Nat):tmF o off a n i+W32≤W32*W32:=by
 unfold tmF
 have h1:=lmb_lt ka i
 have h2:=lmb_lt ko (off+i)
 have h3:lmb a i*n≤(W32 - 1)*(W32 - 1):=Nat.mul_le_mul (by omega) (by omega)
 have h4:(W32 - 1)*(W32 - 1)+W32+W32=W32*W32+1:=by decide
 omega
theorem cy_lt {F:Nat→Nat} (hF:∀i,F i+W32≤W32*W32):∀j,cy F 0 j < W32
 | 0=>W32_pos
 | j+1=>by
  have h1:=cy_lt hF j
  have h2:=hF j
  show (F j+cy F 0 j) / W32 < W32
  rw [Nat.div_lt_iff_lt_mul W32_pos]
  omega
theorem timesO_len {o a:List Nat} {off n:Nat} (h:off+a.length < o.length):(timesO o off a n).length=o.length:=by
 unfold timesO
 simp only [List.length_append,List.length_take,lm_len,List.length_cons,List.length_drop]
 omega
theorem timesO_ok {o a:List Nat} {off n:Nat} (ko:limOk o):limOk (timesO o off a n):=by
 unfold timesO
 exact limOk_app.2 ⟨limOk_take _ ko,limOk_app.2 ⟨lm_ok _ _ _,limOk_cons.2 ⟨Nat.mod_lt _ W32_pos,limOk_drop _ ko⟩⟩⟩
theorem timesO_hi {o a:List Nat} {off n i:Nat} (h:off+a.length < o.length) (hi:off+a.length < i):lmb (timesO o off a n) i=lmb o i:=by
 unfold timesO lmb
 rw [List.getD_eq_getElem?_getD]
 rw [List.getElem?_append_right (by simp;omega),List.getElem?_append_right (by simp [lm_len];omega)]
 obtain ⟨k,rfl⟩:∃k,i=off+a.length+1+k:=⟨i - (off+a.length+1),by omega⟩
 rw [show off+a.length+1+k - (o.take off).length - (lm (tmF o off a n) 0 a.length).length=k+1 by simp [lm_len];omega,List.getElem?_cons_succ,List.getElem?_drop,←List.getD_eq_getElem?_getD]
theorem sumW_drop (o:List Nat) (off:Nat):∀n,sumW (fun i=>lmb o (off+i)) n=valN ((o.drop off).take n):=by
 intro n
 rw [val_take]
 exact sumW_le fun i _=>by unfold lmb;rw [List.getD_eq_getElem?_getD,List.getD_eq_getElem?_getD,List.getElem?_drop]
theorem timesO_val {o a:List Nat} {off n:Nat} (ko:limOk o) (ka:limOk a) (hn:n < W32) (h:off+a.length < o.length) (h0:lmb o (off+a.length)=0):valN (timesO o off a n)=valN o+W32 ^ off*(n*valN a):=by
 have e1:=lm_val (tmF o off a n) 0 a.length
 have e2:sumW (tmF o off a n) a.length=n*valN a+valN ((o.drop off).take a.length):=by
  rw [←sumW_drop,←val_sum (Nat.le_refl a.length),←sumW_mul,←sumW_add]
  exact sumW_le fun i _=>by unfold tmF;rw [Nat.mul_comm]
 have e3:=cy_lt (tmF_lt ko ka hn off) a.length
 have e4:valN o=valN (o.take off)+W32 ^ off*(valN ((o.drop off).take a.length)+W32 ^ a.length*(W32*valN (o.drop (off+a.length+1)))):=by
  have f1:o=o.take off++((o.drop off).take a.length++(0::o.drop (off+a.length+1))):=by
   have g1:(o.drop off).drop a.length=0::o.drop (off+a.length+1):=by
    rw [List.drop_drop,List.drop_eq_getElem_cons h]
    have:o[off+a.length]=0:=by
     have:=lmb_of (List.getElem?_eq_getElem h)
     omega
    rw [this]
   rw [←g1,List.take_append_drop,List.take_append_drop]
  have f2:valN o=valN (o.take off++((o.drop off).take a.length++(0::o.drop (off+a.length+1)))):=congrArg valN f1
  rw [f2,valN_app,valN_app,List.length_take,List.length_take,List.length_drop,Nat.min_eq_left (by omega),Nat.min_eq_left (by omega)]
  simp [valN]
 unfold timesO
 rw [valN_app,valN_app,lm_len,List.length_take,Nat.min_eq_left (by omega),h0,Nat.zero_add,Nat.mod_eq_of_lt e3,e4]
 rw [e2] at e1
 show valN (o.take off)+W32 ^ off*(valN (lm (tmF o off a n) 0 a.length)+W32 ^ a.length*(cy (tmF o off a n) 0 a.length+W32*valN (o.drop (off+a.length+1))))=_
 generalize valN (lm (tmF o off a n) 0 a.length)=l at *
 generalize cy (tmF o off a n) 0 a.length=k at *
 generalize valN (o.drop (off+a.length+1))=r at *
 generalize valN ((o.drop off).take a.length)=m at *
 generalize W32 ^ a.length=u at *
 generalize W32 ^ off=v at *
 generalize n*valN a=q at *
 generalize W32*r=w
 have:l+u*(k+w)=q+m+u*w:=by rw [Nat.mul_add,Nat.mul_comm u k];omega
 rw [this]
 rw [Nat.mul_add,Nat.mul_add,Nat.mul_add]
 omega
def mulO (a b:List Nat):Nat→List Nat
 | 0=>List.replicate (a.length+b.length+1) 0
 | j+1=>timesO (mulO a b j) j a (lmb b j)
theorem mulO_all {a b:List Nat} (ka:limOk a) (kb:limOk b):∀{j},j≤b.length→(mulO a b j).length=a.length+b.length+1∧limOk (mulO a b j)∧valN (mulO a b j)=valN a*sumW (lmb b) j∧∀i,j+a.length≤i→lmb (mulO a b j) i=0
 | 0,_=>by
  refine ⟨by simp [mulO],limOk_rep _,by simp [mulO,valN_rep,sumW],fun i _=>?_⟩
  unfold mulO lmb
  rw [List.getD_eq_getElem?_getD,List.getElem?_replicate]
  split <;> rfl
 | j+1,h=>by
  obtain ⟨h1,h2,h3,h4⟩:=mulO_all ka kb (show j≤b.length by omega)
  have hb:j+a.length < (mulO a b j).length:=by omega
  refine ⟨by rw [mulO,timesO_len hb,h1],timesO_ok h2,?_,fun i hi=>?_⟩
  ·rw [mulO,timesO_val h2 ka (lmb_lt kb j) hb (h4 _ (Nat.le_refl _)),h3]
   show _=valN a*(sumW (lmb b) j+lmb b j*W32 ^ j)
   rw [Nat.mul_add]
   congr 1
   rw [Nat.mul_comm (lmb b j) (valN a),Nat.mul_left_comm,Nat.mul_comm (W32 ^ j)]
  ·rw [mulO,timesO_hi hb (by omega),h4 i (by omega)]
theorem mulO_val {a b:List Nat} (ka:limOk a) (kb:limOk b):valN (mulO a b b.length)=valN a*valN b:=by
 rw [(mulO_all ka kb (Nat.le_refl _)).2.2.1,val_sum (Nat.le_refl _)]
end Go.Proofs.YtigdhgbkgfagiaaGreat
set_option linter.unusedVariables false
set_option linter.unusedSimpArgs false
namespace Go.Proofs.YtigdhgbkgfagiaaGreat
def midO (o:List Nat) (off:Nat) (F:Nat→Nat) (j:Nat):List Nat:=o.take off++(lm F 0 j++o.drop (off+j))
theorem mid_get {o:List Nat} {off j x:Nat} {F:Nat→Nat} (h:o[off+j]?=some x):(midO o off F j)[off+j]?=some x:=by
 have hl:=(List.getElem?_eq_some_iff.1 h).1
 unfold midO
 rw [List.getElem?_append_right (by simp;omega),List.getElem?_append_right (by simp [lm_len];omega),List.length_take,lm_len,Nat.min_eq_left (by omega),show off+j - off - j=0 by omega,List.getElem?_drop,Nat.add_zero,h]
theorem mid_set {o:List Nat} {off j v:Nat} {F:Nat→Nat} (h:off+j < o.length):(midO o off F j).set (off+j) v=o.take off++(lm F 0 j++(v::o.drop (off+j+1))):=by
 unfold midO
 rw [List.set_append_right _ _ (by simp;omega),List.set_append_right _ _ (by simp [lm_len];omega),List.length_take,lm_len,Nat.min_eq_left (by omega),show off+j - off - j=0 by omega,List.drop_eq_getElem_cons h,List.set_cons_zero]
theorem mid_next {o:List Nat} {off j:Nat} {F:Nat→Nat} (h:off+j < o.length):(midO o off F j).set (off+j) ((F j+cy F 0 j) % W32)=midO o off F (j+1):=by
 rw [mid_set h]
 show _=o.take off++((lm F 0 j++[(F j+cy F 0 j) % W32])++o.drop (off+(j+1)))
 rw [List.append_assoc];rfl
theorem mid_zero {o:List Nat} {off:Nat} {F:Nat→Nat}:midO o off F 0=o:=by
 unfold midO
 exact List.take_append_drop off o
theorem u64_mul {x n:Nat} (hx:x < W32) (hn:n < W32):IntKind.u64.wrap ((x:Int)*n)=((x*n:Nat):Int):=by
 have:x*n≤(W32 - 1)*(W32 - 1):=Nat.mul_le_mul (by omega) (by omega)
 have e:(W32 - 1)*(W32 - 1) < 18446744073709551616:=by decide
 rw [←wrap_u64 (n:=x*n) (by omega),Int.natCast_mul]
theorem u64_add {x n:Nat} (h:x+n < 18446744073709551616):IntKind.u64.wrap ((x:Int)+n)=((x+n:Nat):Int):=by
 rw [←wrap_u64 h,Int.natCast_add]
theorem shr32_i (z:Nat):binV .shr (.int .u64 (z:Int)) (.int .u64 32)=some (.int .u64 ((z / W32:Nat):Int)):=shr_i (s:=32) (by decide)
theorem W_sq:W32*W32=18446744073709551616:=by decide
variable {L:Lib} (hL:L.T=tab.get)
include hL
theorem times_a {s w off n:Nat} {o a:List Nat} {c cp:Option Nat} (hs:s=1∨a=[]) (ko:limOk o) (ka:limOk a) (hn:n < W32) (hw:a.length < w) (ho:off+w≤o.length) (hl:o.length < 4611686018427387904) :
    AFn L (.fn 190) [.ref 0 1 off w cp,tl nrow s a c,.int .u32 n] [some (.arr 1 (o.map nrow))] (fun r H'=>r=.tup []∧H'=[some (.arr 1 ((timesO o off a n).map nrow))]):=by
 refine AFn.of_body (F:=T190.1) (by rw [hL];rfl) rfl ?_
 obtain ⟨F,hF⟩:∃F,F=tmF o off a n:=⟨_,rfl⟩
 have hFl:∀i,F i+W32≤W32*W32:=fun i=>by rw [hF];exact tmF_lt ko ka hn off i
 refine Wn0 ?_
 refine wCntH rfl 11 a.length (fun j=>[(6,V.int IntKind.u64 (cy F 0 j:Nat))]) (fun j=>[some (Blk.arr 1 ((midO o off F j).map nrow))]) (fun _=>True) rfl (by rw [mid_zero]) trivial ?_ ?_
 ·intro j hj _
  obtain rfl:=size_of hs hj
  obtain ⟨x,hx,_⟩:=get_of hj
  have hoj:off+j < o.length:=by omega
  obtain ⟨y,hy,_⟩:=get_of hoj
  have hjw:j < w:=by omega
  have hj':(j:Int) < (a.length:Int):=by omega
  have hsu:=wrap_succ (show j < 9223372036854775807 by omega)
  have hxl:x < W32:=by have:=lmb_lt ka j;rwa [lmb_of hx] at this
  have hyl:y < W32:=by have:=lmb_lt ko (off+j);rwa [lmb_of hy] at this
  have hmg:=mid_get (F:=F) hy
  have hms:=mid_next (F:=F) hoj
  have hFj:F j=x*n+y:=by rw [hF];unfold tmF;rw [lmb_of hx,lmb_of hy]
  have hk:=cy_lt hFl j
  have hb:=hFl j
  have hsq:=W_sq
  rw [show cy F 0 (j+1)=(F j+cy F 0 j) / W32 from rfl]
  have hWv:W32=4294967296:=rfl
  have w1:=wrap_u64 (n:=x) (by omega)
  have w2:=wrap_u64 (n:=n) (by omega)
  have w3:=wrap_u64 (n:=y) (by omega)
  have w4:=u64_mul hxl hn
  have w5:=u64_add (x:=x*n) (n:=y) (by omega)
  rw [←hFj] at w5
  have w6:=u64_add (x:=cy F 0 j) (n:=F j) (by omega)
  rw [Nat.add_comm (cy F 0 j) (F j)] at w6
  have w7:=wrap_u32 (F j+cy F 0 j)
  have w8:=shr32_i (F j+cy F 0 j)
  clear hb hsq hWv hk hFj
  generalize (F j+cy F 0 j) % W32=p at *
  generalize (F j+cy F 0 j) / W32=q at *
  generalize F j+cy F 0 j=r at *
  generalize F j=f at *
  generalize x*n=m at *
  refine Wf0 (Q5 hj hj' hjw hsu (Q5 hx (iT hj) @nrow_eq @nrow_set (Q5 hmg hms w1 w2 (Q5 w3 w4 w5 w6 (Q2 w7 w8))))) ?_
  exact qR_n rfl rfl trivial
 ·intro _
  have hoa:off+a.length < o.length:=by omega
  obtain ⟨z,hz,_⟩:=get_of hoa
  have hmg:=mid_get (F:=F) hz
  have hms:=mid_set (F:=F) (v:=(z+cy F 0 a.length) % W32) hoa
  have hk:=cy_lt hFl a.length
  have w1:=wrap_n32 hk
  have w2:IntKind.u32.wrap ((z:Int)+(cy F 0 a.length:Nat))=(((z+cy F 0 a.length) % W32:Nat):Int):=by rw [←wrap_u32,Int.natCast_add]
  have ht:timesO o off a n=o.take off++(lm F 0 a.length++((z+cy F 0 a.length) % W32::o.drop (off+a.length+1))):=by unfold timesO;rw [←hF,lmb_of hz]
  rw [ht]
  generalize (z+cy F 0 a.length) % W32=p at *
  refine Xf0 (Q5 hw @nrow_eq @nrow_set hmg (Q3 hms w1 w2)) ?_
  exact FnQ.at rfl ⟨rfl,rfl⟩
end Go.Proofs.YtigdhgbkgfagiaaGreat
namespace Go.Proofs.YtigdhgbkgfagiaaGreat
variable {L:Lib} (hL:L.T=tab.get)
include hL
theorem nmul_v {s t:Nat} {a b:List Nat} {c d:Option Nat} (hs:s=1∨a=[]) (ht:t=1∨b=[]) (ka:limOk a) (kb:limOk b) (la:a.length≤96) (lb:b.length≤96) (sa:shortN a) (sb:shortN b):VFn L 159 [tl nrow s a c,tl nrow t b d] (fitV (valN a*valN b)):=by
 have hb:bothN a b=0:=by unfold bothN;rw [if_pos (chk_zero.2 ⟨la,sa⟩)];exact chk_zero.2 ⟨lb,sb⟩
 refine VFn.start (F:=T159.1) (by rw [hL];rfl) rfl rfl rfl ?_
 obtain ⟨m,hm⟩:∃m:Nat,m=a.length+b.length:=⟨_,rfl⟩
 have hw0:IntKind.i64.wrap ((a.length:Int)+b.length)=(m:Int):=by rw [wrap_i64 (by omega) (by omega)];omega
 have hw:=wrap_succ (show m < 9223372036854775807 by omega)
 have hroom:(m+1)*4≤140737488355328:=by omega
 have hsz:m+1 < 9223372036854775808:=by omega
 refine Wf1 (Q5 hb hw0 hw hroom (Q2 hsz @nat?_add1)) (nboth_v hL hs ht (by omega) (by omega)) ?_
 have hH0:([some (Blk.arr 1 (List.replicate (m+1) [V.int IntKind.u32 0]))]:Heap)=[some (Blk.arr 1 ((mulO a b 0).map nrow))]:=by
  rw [show mulO a b 0=List.replicate (a.length+b.length+1) 0 from rfl,←hm,List.map_replicate];rfl
 refine wCntH rfl 25 b.length (fun _=>[]) (fun j=>[some (Blk.arr 1 ((mulO a b j).map nrow))]) (fun _=>True) rfl (by exact hH0) trivial ?_ ?_
 ·intro j hj _
  obtain rfl:=size_of ht hj
  obtain ⟨x,hx,_⟩:=get_of hj
  have hj':(j:Int) < (b.length:Int):=by omega
  have hsu:=wrap_succ (show j < 9223372036854775807 by omega)
  obtain ⟨h1,h2,h3,h4⟩:=mulO_all ka kb (show j≤b.length by omega)
  have hjm:j≤m+1:=by omega
  have hxl:x < W32:=by have:=lmb_lt kb j;rwa [lmb_of hx] at this
  have hta:=times_a hL (off:=j) (w:=m+1 - j) (cp:=some (m+1 - j)) (c:=c) hs h2 ka hxl (by omega) (by omega) (by omega)
  rw [show timesO (mulO a b j) j a x=mulO a b (j+1) by rw [mulO,lmb_of hx]] at hta
  refine Wf0 (Q5 hj hj' hx (iT hj) (Q2 @nrow_eq hjm)) ?_
  refine opsP_all (vs:=[.ref 0 1 j (m+1 - j) (some (m+1 - j)),tl nrow s a c,.int .u32 x]) rfl hta ?_
  rintro r h' ⟨rfl,rfl⟩
  refine Wf0 hsu ?_
  exact qR_n rfl rfl trivial
 ·intro _
  obtain ⟨h1,h2,h3,h4⟩:=mulO_all ka kb (Nat.le_refl b.length)
  have hval:=mulO_val ka kb
  rw [←hm] at h1
  have hfz:V.ren (sgOf [some (Blk.arr 1 ((mulO a b b.length).map nrow))] [] [0]) (.ref 0 1 0 (m+1) (some (m+1)))=tl nrow 1 (mulO a b b.length) (some (m+1)):=by
   have:=frz_ref (f:=nrow) (l:=mulO a b b.length) (c:=some (m+1)) (H:=[some (Blk.arr 1 ((mulO a b b.length).map nrow))]) (fz:=[0]) (a:=0) (n:=1) closed_nrow (by decide) rfl rfl
   rwa [h1] at this
  refine wShift [] [0] (E1:=[(0,tl nrow s a c),(7,tl nrow 1 (mulO a b b.length) (some (m+1))),(23,tl nrow t b d),(24,V.int IntKind.i64 (b.length:Int)),(25,V.int IntKind.i64 (b.length:Int))]) (H1:=[]) rfl (congrArg (fun v=>[(0,tl nrow s a c),(7,v),(23,tl nrow t b d),(24,V.int IntKind.i64 (b.length:Int)),(25,V.int IntKind.i64 (b.length:Int))]) hfz) rfl ?_
  have hfit:=nfits_v hL (c:=some (m+1)) h2 (by omega)
  rw [hval] at hfit
  unfold fitV at hfit ⊢
  refine Xn1 hfit ?_
  exact FnQ.ret rfl rfl
end Go.Proofs.YtigdhgbkgfagiaaGreat
namespace Go.Proofs.YtigdhgbkgfagiaaGreat
theorem two_limbs {x y:Nat} (hx:x < W32) (hy:y < W32):x*W32+y < 18446744073709551616:=by
 have h1:(x+1)*W32≤W32*W32:=Nat.mul_le_mul_right _ hx
 rw [W_sq,Nat.succ_mul] at h1
 omega
theorem lt64 {x:Nat} (h:x < W32):x < 18446744073709551616:=by unfold W32 at h;omega
theorem bv64 {x:Nat} (h:x < 18446744073709551616):(BitVec.ofInt 64 (x:Int)).toNat=x:=by
 rw [BitVec.toNat_ofInt]
 omega
theorem shl32_i {x:Nat} (h:x < W32):binV .shl (.int .u64 (x:Int)) (.int .u64 32)=some (.int .u64 ((x*W32:Nat):Int)):=by
 have e:=shl_i (k:=.u64) (j:=.u64) (x:=x) (s:=32) (by decide)
 rw [wrap_u64 (by unfold W32 at h;omega)] at e
 exact e
theorem or64_i {x y:Nat} (hx:x < W32) (hy:y < W32):binV .or (.int .u64 ((x*W32:Nat):Int)) (.int .u64 (y:Int))=some (.int .u64 ((x*W32+y:Nat):Int)):=by
 have h1:x*W32 < 18446744073709551616:=Nat.lt_of_le_of_lt (Nat.le_add_right _ y) (two_limbs hx hy)
 have h2:y < 18446744073709551616:=lt64 hy
 have h3:x*W32+y < 18446744073709551616:=two_limbs hx hy
 have e:x*W32 ||| y=x*W32+y:=by
  have hy':y < 2 ^ 32:=by unfold W32 at hy;omega
  have:=Nat.shiftLeft_add_eq_or_of_lt (i:=32) (b:=y) hy' x
  rw [Nat.shiftLeft_eq] at this
  rw [show (2:Nat) ^ 32=W32 by decide] at this
  exact this.symm
 show some (V.int .u64 (IntKind.u64.wrap ((BitVec.ofInt 64 ((x*W32:Nat):Int) ||| BitVec.ofInt 64 (y:Int)).toNat:Int)))=_
 rw [BitVec.toNat_or,bv64 h1,bv64 h2,e,wrap_u64 h3]
theorem quo_i {z y:Nat} (hy:0 < y) (hz:z < 18446744073709551616):binV .quo (.int .u64 (z:Int)) (.int .u64 (y:Int))=some (.int .u64 ((z / y:Nat):Int)):=by
 have h0:¬(y:Int)=0:=by omega
 have h1:z / y < 18446744073709551616:=Nat.lt_of_le_of_lt (Nat.div_le_self _ _) hz
 simp only [binV,binInt,if_true,h0,if_false]
 rw [show (z:Int).tdiv (y:Int)=((z / y:Nat):Int) from rfl,wrap_u64 h1]
theorem rem_i {z y:Nat} (hy:0 < y):binV .rem (.int .u64 (z:Int)) (.int .u64 (y:Int))=some (.int .u64 ((z % y:Nat):Int)):=by
 have h0:¬(y:Int)=0:=by omega
 simp only [binV,binInt,if_true,h0,if_false]
 rfl
variable {L:Lib} (hL:L.T=tab.get)
include hL
theorem div_go {hi lo y A Z q r:Nat} (h:hi < y) (w1:IntKind.u64.wrap (hi:Int)=hi) (w2:IntKind.u64.wrap (lo:Int)=lo) (w3:IntKind.u64.wrap (y:Int)=y)
    (s1:binV .shl (.int .u64 (hi:Int)) (.int .u64 32)=some (.int .u64 (A:Int))) (s2:binV .or (.int .u64 (A:Int)) (.int .u64 (lo:Int))=some (.int .u64 (Z:Int)))
    (s3:binV .quo (.int .u64 (Z:Int)) (.int .u64 (y:Int))=some (.int .u64 (q:Int))) (s4:binV .rem (.int .u64 (Z:Int)) (.int .u64 (y:Int))=some (.int .u64 (r:Int)))
    (w4:IntKind.u32.wrap (q:Int)=q) (w5:IntKind.u32.wrap (r:Int)=r):VFn L 216 [.int .u32 hi,.int .u32 lo,.int .u32 y] (.tup [.int .u32 q,.int .u32 r]):=by
 have h0:¬(y:Int)=0:=by omega
 have h1:¬(y:Int)≤hi:=by omega
 refine VFn.start (F:=T216.1) (by rw [hL];rfl) rfl rfl rfl ?_
 refine Wf0 (Q5 h0 h1 w1 w2 (Q5 w3 s1 s2 s3 (Q3 s4 w4 w5))) ?_
 exact FnQ.ret rfl rfl
theorem div32_v {hi lo y:Nat} (h:hi < y) (hy:y < W32) (hl:lo < W32):VFn L 216 [.int .u32 hi,.int .u32 lo,.int .u32 y] (.tup [.int .u32 ((hi*W32+lo) / y:Nat),.int .u32 ((hi*W32+lo) % y:Nat)]):=
 have h1:hi < W32:=Nat.lt_trans h hy
 have h2:(hi*W32+lo) / y < W32:=by
  rw [Nat.div_lt_iff_lt_mul (by omega)]
  have:(hi+1)*W32≤y*W32:=Nat.mul_le_mul_right _ h
  rw [Nat.succ_mul] at this
  rw [Nat.mul_comm W32 y]
  omega
 have h3:(hi*W32+lo) % y < W32:=Nat.lt_trans (Nat.mod_lt _ (by omega)) hy
 have h4:hi*W32+lo < 18446744073709551616:=two_limbs h1 hl
 div_go hL h (wrap_u64 (lt64 h1)) (wrap_u64 (lt64 hl)) (wrap_u64 (lt64 hy)) (shl32_i h1) (or64_i h1 hl) (quo_i (by omega) h4) (rem_i (by omega)) (wrap_n32 h2) (wrap_n32 h3)
end Go.Proofs.YtigdhgbkgfagiaaGreat
namespace Go.Proofs.YtigdhgbkgfagiaaGreat
def smQ (n:Nat):List Nat→List Nat
 | []=>[]
 | x::l=>((valN l % n)*W32+x) / n::smQ n l
theorem smQ_len (n:Nat):∀l,(smQ n l).length=l.length
 | []=>rfl
 | x::l=>by simp [smQ,smQ_len n l]
theorem step_split {v x n W:Nat}:x+W*v=((v % n)*W+x)+n*(W*(v / n)):=by
 have h:W*v=W*(n*(v / n)+v % n):=by rw [Nat.div_add_mod]
 rw [h,Nat.mul_add,Nat.mul_comm (v % n) W,Nat.mul_left_comm n W]
 omega
theorem smQ_val {n:Nat} (hn:0 < n):∀l,valN (smQ n l)=valN l / n
 | []=>by simp [smQ,valN]
 | x::l=>by
  show ((valN l % n)*W32+x) / n+W32*valN (smQ n l)=(x+W32*valN l) / n
  rw [smQ_val hn l,step_split (v:=valN l) (n:=n),Nat.add_mul_div_left _ _ hn]
theorem sm_rem {n x:Nat} {l:List Nat}:((valN l % n)*W32+x) % n=valN (x::l) % n:=by
 show _=(x+W32*valN l) % n
 rw [step_split (v:=valN l) (n:=n),Nat.add_mul_mod_self_left]
theorem sm_lt {r x n:Nat} (hr:r < n) (hx:x < W32):(r*W32+x) / n < W32:=by
 rw [Nat.div_lt_iff_lt_mul (by omega)]
 have:(r+1)*W32≤n*W32:=Nat.mul_le_mul_right _ hr
 rw [Nat.succ_mul] at this
 rw [Nat.mul_comm W32 n]
 omega
theorem smQ_ok {n:Nat} (hn:0 < n):∀{l},limOk l→limOk (smQ n l)
 | [],_=>limOk_nil
 | x::l,h=>limOk_cons.2 ⟨sm_lt (Nat.mod_lt _ hn) (limOk_cons.1 h).1,smQ_ok hn (limOk_cons.1 h).2⟩
theorem rep_set {k v:Nat} {S:List Nat}:(List.replicate (k+1) 0++S).set k v=List.replicate k 0++(v::S):=by
 rw [List.replicate_succ',List.append_assoc,List.set_append_right _ _ (by simp)]
 simp
theorem rep_get {k:Nat} {S:List Nat}:(List.replicate (k+1) 0++S)[k]?=some 0:=by
 rw [List.replicate_succ',List.append_assoc,List.getElem?_append_right (by simp)]
 simp
def smB (n:Nat) (a:List Nat) (k:Nat):List Nat:=List.replicate k 0++smQ n (a.drop k)
theorem smB_zero {n:Nat} {a:List Nat}:smB n a 0=smQ n a:=by unfold smB;rw [List.drop_zero,List.replicate_zero,List.nil_append]
theorem smB_len {n:Nat} {a:List Nat}:smB n a a.length=List.replicate a.length 0:=by unfold smB;rw [List.drop_length,show smQ n []=[] from rfl,List.append_nil]
theorem smB_get {n k:Nat} {a:List Nat}:(smB n a (k+1))[k]?=some 0:=rep_get
theorem smB_set {n k x:Nat} {a:List Nat} (hd:a.drop k=x::a.drop (k+1)):(smB n a (k+1)).set k ((valN (a.drop (k+1)) % n*W32+x) / n)=smB n a k:=by
 unfold smB
 rw [rep_set,show ((valN (a.drop (k+1)) % n*W32+x) / n::smQ n (a.drop (k+1)))=smQ n (a.drop k) by rw [hd];rfl]
variable {L:Lib} (hL:L.T=tab.get)
include hL
theorem small_v {s:Nat} {a:List Nat} {c:Option Nat} {n:Nat} (hs:s=1∨a=[]) (ka:limOk a) (hn0:0 < n) (hn:n < W32) (la:a.length≤35184372088832):VFn L 207 [tl nrow s a c,.int .u32 n] (.tup [dgl (valN a / n),.int .u32 (valN a % n:Nat)]):=by
 obtain ⟨R,hR⟩:∃R:Nat→Nat,∀k,R k=valN (a.drop k) % n:=⟨fun k=>valN (a.drop k) % n,fun _=>rfl⟩
 have hR0:valN a % n=R 0:=by rw [hR,List.drop_zero]
 rw [hR0]
 refine VFn.start (F:=T207.1) (by rw [hL];rfl) rfl rfl rfl ?_
 have hroom:a.length*4≤140737488355328:=by omega
 have hsz:a.length < 9223372036854775808:=by omega
 have hw0:IntKind.i64.wrap ((a.length:Int) - 1)=(a.length:Int) - 1:=wrap_i64 (by omega) (by omega)
 refine Wf0 (Q3 hroom hsz hw0) ?_
 refine wWhile rfl (fun k:Nat=>[(0,tl nrow s a c),(1,V.int IntKind.u32 (n:Int)),(4,V.ref 0 1 0 a.length (some a.length)),(5,V.int IntKind.u32 (R k:Int)),(6,V.int IntKind.i64 ((k:Int) - 1))]) (fun k=>[some (Blk.arr 1 ((smB n a k).map nrow))]) (fun k=>k) (fun k=>k≤a.length) a.length (by rw [show R a.length=0 by rw [hR,List.drop_length,show valN []=0 from rfl,Nat.zero_mod]];rfl) (by rw [smB_len,List.map_replicate];rfl) (Nat.le_refl _) ?_
 intro k hk
 cases k with
 | zero=>
  have h0:¬(0:Int)≤0 - 1:=by omega
  have hlen:=smQ_len n a
  have hfz:V.ren (sgOf [some (Blk.arr 1 ((smQ n a).map nrow))] [] [0]) (.ref 0 1 0 a.length (some a.length))=tl nrow 1 (smQ n a) (some a.length):=by
   have:=frz_ref (f:=nrow) (l:=smQ n a) (c:=some a.length) (H:=[some (Blk.arr 1 ((smQ n a).map nrow))]) (fz:=[0]) (a:=0) (n:=1) closed_nrow (by decide) rfl rfl
   rwa [hlen] at this
  rw [smB_zero]
  refine wShift [] [0] (E1:=[(0,tl nrow s a c),(1,V.int IntKind.u32 (n:Int)),(4,tl nrow 1 (smQ n a) (some a.length)),(5,V.int IntKind.u32 (R 0:Int)),(6,V.int IntKind.i64 (((0:Nat):Int) - 1))]) (H1:=[]) rfl (congrArg (fun v=>[(0,tl nrow s a c),(1,V.int IntKind.u32 (n:Int)),(4,v),(5,V.int IntKind.u32 (R 0:Int)),(6,V.int IntKind.i64 (((0:Nat):Int) - 1))]) hfz) rfl ?_
  have htr:=trim_dv hL (c:=some a.length) (smQ_ok hn0 ka) (by omega)
  rw [smQ_val hn0] at htr
  refine Wf1 h0 htr ?_
  exact FnQ.ret rfl rfl
 | succ k=>
  have hi:k < a.length:=by omega
  obtain ⟨x,hx,_⟩:=get_of hi
  obtain rfl:=size_of hs hi
  have hxl:x < W32:=by have:=lmb_lt ka k;rwa [lmb_of hx] at this
  have h0:(0:Int)≤(k:Int):=by omega
  have wk:IntKind.i64.wrap ((k:Int) - 1)=(k:Int) - 1:=wrap_i64 (by omega) (by omega)
  have hd:a.drop k=x::a.drop (k+1):=by
   rw [List.drop_eq_getElem_cons hi]
   have:=(List.getElem?_eq_some_iff.1 hx).2
   rw [this]
  have hdv:=div32_v hL (Nat.mod_lt (valN (a.drop (k+1))) hn0) hn hxl
  rw [sm_rem,←hd] at hdv
  have hget:=smB_get (n:=n) (k:=k) (a:=a)
  have hset:=smB_set (n:=n) hd
  rw [←hR] at hdv hset
  rw [←hR k] at hdv
  generalize hp:(R (k+1)*W32+x) / n=p at *
  refine Wf1 (Q5 h0 hi hx @nrow_eq (Q5 @nrow_set (iT hi) hget hset wk)) hdv ?_
  exact qW_n k rfl rfl ⟨by omega,by omega⟩
end Go.Proofs.YtigdhgbkgfagiaaGreat
namespace Go.Proofs.YtigdhgbkgfagiaaGreat
def bkF (o:List Nat) (off:Nat) (v:List Nat) (i:Nat):Nat:=lmb o (off+i)+lmb v i
def backO (o:List Nat) (off:Nat) (v:List Nat):List Nat:=o.take off++(lm (bkF o off v) 0 v.length++((lmb o (off+v.length)+cy (bkF o off v) 0 v.length) % W32::o.drop (off+v.length+1)))
variable {L:Lib} (hL:L.T=tab.get)
include hL
theorem back_a {s w off:Nat} {o v:List Nat} {c cp:Option Nat} (hs:s=1∨v=[]) (ko:limOk o) (kv:limOk v) (hw:v.length < w) (ho:off+w≤o.length) (hl:o.length < 4611686018427387904) :
    AFn L (.fn 221) [.ref 0 1 off w cp,tl nrow s v c] [some (.arr 1 (o.map nrow))] (fun r H'=>r=.tup []∧H'=[some (.arr 1 ((backO o off v).map nrow))]):=by
 refine AFn.of_body (F:=T221.1) (by rw [hL];rfl) rfl ?_
 obtain ⟨F,hF⟩:∃F,F=bkF o off v:=⟨_,rfl⟩
 have hFl:∀i,F i≤2*(W32 - 1):=fun i=>by rw [hF];unfold bkF;have:=lmb_lt ko (off+i);have:=lmb_lt kv i;omega
 refine Wn0 ?_
 refine wCntH rfl 9 v.length (fun j=>[(4,V.int IntKind.u32 (cy F 0 j:Nat))]) (fun j=>[some (Blk.arr 1 ((midO o off F j).map nrow))]) (fun _=>True) rfl (by rw [mid_zero]) trivial ?_ ?_
 ·intro j hj _
  obtain rfl:=size_of hs hj
  obtain ⟨x,hx,_⟩:=get_of hj
  have hoj:off+j < o.length:=by omega
  obtain ⟨y,hy,_⟩:=get_of hoj
  have hjw:j < w:=by omega
  have hj':(j:Int) < (v.length:Int):=by omega
  have hsu:=wrap_succ (show j < 9223372036854775807 by omega)
  have hxl:x < W32:=by have:=lmb_lt kv j;rwa [lmb_of hx] at this
  have hyl:y < W32:=by have:=lmb_lt ko (off+j);rwa [lmb_of hy] at this
  have hmg:=mid_get (F:=F) hy
  have hms:=mid_next (F:=F) hoj
  have hFj:F j=y+x:=by rw [hF];unfold bkF;rw [lmb_of hx,lmb_of hy]
  have hk:=cy_le hFl j
  have hkl:cy F 0 j < W32:=Nat.lt_of_le_of_lt hk (by decide)
  rw [show cy F 0 (j+1)=(F j+cy F 0 j) / W32 from rfl]
  have hadd:=add32_v hL hyl hxl hkl
  rw [←hFj] at hadd
  generalize (F j+cy F 0 j) % W32=p at *
  generalize (F j+cy F 0 j) / W32=q at *
  refine Wf1 (Q5 hj hj' hjw hsu (Q5 hx (iT hj) @nrow_eq @nrow_set (Q2 hmg hms))) hadd ?_
  exact qR_n rfl rfl trivial
 ·intro _
  have hoa:off+v.length < o.length:=by omega
  obtain ⟨z,hz,_⟩:=get_of hoa
  have hmg:=mid_get (F:=F) hz
  have hms:=mid_set (F:=F) (v:=(z+cy F 0 v.length) % W32) hoa
  have w2:IntKind.u32.wrap ((z:Int)+(cy F 0 v.length:Nat))=(((z+cy F 0 v.length) % W32:Nat):Int):=by rw [←wrap_u32,Int.natCast_add]
  have ht:backO o off v=o.take off++(lm F 0 v.length++((z+cy F 0 v.length) % W32::o.drop (off+v.length+1))):=by unfold backO;rw [←hF,lmb_of hz]
  rw [ht]
  generalize (z+cy F 0 v.length) % W32=p at *
  refine Xf0 (Q5 hw @nrow_eq @nrow_set hmg (Q2 hms w2)) ?_
  exact FnQ.at rfl ⟨rfl,rfl⟩
end Go.Proofs.YtigdhgbkgfagiaaGreat
namespace Go.Proofs.YtigdhgbkgfagiaaGreat
theorem mod_split {l u t W:Nat} (h:l < u):(l+u*t) % (u*W)=l+u*(t % W):=by
 rw [Nat.mod_mul,Nat.add_mul_mod_self_left,Nat.mod_eq_of_lt h,Nat.add_mul_div_left _ _ (by omega),Nat.div_eq_of_lt h,Nat.zero_add]
theorem window_val {F:Nat→Nat} {z n:Nat}:valN (lm F 0 n++[(z+cy F 0 n) % W32])=(sumW F n+z*W32 ^ n) % W32 ^ (n+1):=by
 have e1:=lm_val F 0 n
 have e2:=valN_lt (lm_ok F 0 n)
 rw [lm_len] at e2
 rw [val_snoc,lm_len,Nat.pow_succ]
 rw [Nat.add_zero] at e1
 rw [←e1]
 generalize valN (lm F 0 n)=l at *
 generalize cy F 0 n=k at *
 generalize W32 ^ n=u at *
 rw [show l+k*u+z*u=l+u*(z+k) by rw [Nat.mul_add,Nat.mul_comm k u,Nat.mul_comm z u];omega,mod_split e2,Nat.mul_comm]
end Go.Proofs.YtigdhgbkgfagiaaGreat
namespace Go.Proofs.YtigdhgbkgfagiaaGreat
def LenOk (x n:Nat):Prop:=x < 2 ^ n∧(0 < x→1≤n∧2 ^ (n - 1)≤x)
theorem len_shift {x s n:Nat} (h:LenOk (x / 2 ^ s) n) (hx:2 ^ s≤x):LenOk x (n+s):=by
 have hs:0 < 2 ^ s:=Nat.two_pow_pos s
 have hp:0 < x / 2 ^ s:=Nat.div_pos hx hs
 obtain ⟨h1,h2⟩:=h
 obtain ⟨h3,h4⟩:=h2 hp
 refine ⟨?_,fun _=>⟨by omega,?_⟩⟩
 ·rw [Nat.pow_add]
  exact (Nat.div_lt_iff_lt_mul hs).1 h1
 ·rw [show n+s - 1=(n - 1)+s by omega,Nat.pow_add]
  exact (Nat.le_div_iff_mul_le hs).1 h4
theorem len_norm {x n:Nat} (h:LenOk x n) (h0:0 < x) (hx:x < W32):1≤n∧n≤32∧W32≤2*(x*2 ^ (32 - n))∧x*2 ^ (32 - n) < W32:=by
 obtain ⟨h1,h2⟩:=h
 obtain ⟨h3,h4⟩:=h2 h0
 have h5:n≤32:=by
  refine Nat.le_of_not_lt fun hn=>?_
  have:2 ^ 32≤2 ^ (n - 1):=Nat.pow_le_pow_right (by decide) (by omega)
  have:W32=2 ^ 32:=rfl
  omega
 have hD:0 < 2 ^ (32 - n):=Nat.two_pow_pos _
 have e1:2 ^ n*2 ^ (32 - n)=W32:=by rw [←Nat.pow_add,show n+(32 - n)=32 by omega];rfl
 have e2:2*2 ^ (n - 1)=2 ^ n:=by rw [←Nat.pow_succ',show (n - 1).succ=n by omega]
 refine ⟨h3,h5,?_,?_⟩
 ·have:=Nat.mul_le_mul_right (2 ^ (32 - n)) h4
  rw [←e1,←e2,Nat.mul_assoc]
  omega
 ·rw [←e1]
  exact (Nat.mul_lt_mul_right hD).2 h1
theorem shl_or {x k B:Nat} (hB:B < 2 ^ k) (hk:k < 32):(x*2 ^ k) % W32 ||| B=(x*2 ^ k) % W32+B:=by
 have hW:W32=2 ^ (32 - k)*2 ^ k:=by rw [←Nat.pow_add,show 32 - k+k=32 by omega];rfl
 have e:(x*2 ^ k) % W32=(x % 2 ^ (32 - k))*2 ^ k:=by rw [hW,Nat.mul_mod_mul_right]
 have:=Nat.shiftLeft_add_eq_or_of_lt hB (x % 2 ^ (32 - k))
 rw [Nat.shiftLeft_eq] at this
 rw [e]
 exact this.symm
theorem shl_lo {y k:Nat} (hy:y < W32):y*2 ^ k / W32 < 2 ^ k:=by
 rw [Nat.div_lt_iff_lt_mul W32_pos,Nat.mul_comm]
 exact (Nat.mul_lt_mul_left (Nat.two_pow_pos k)).2 hy
def shL (a:List Nat) (k:Nat):List Nat:=(List.range (a.length+1)).map (shf a k)
def shB (a:List Nat) (k i:Nat):List Nat:=(a++[0]).take i++(shL a k).drop i
theorem shL_len {a:List Nat} {k:Nat}:(shL a k).length=a.length+1:=by simp [shL]
theorem shL_get {a:List Nat} {k i:Nat} (h:i≤a.length):(shL a k)[i]?=some (shf a k i):=by simp [shL,show i < a.length+1 by omega]
theorem shL_ok {a:List Nat} {k:Nat} (h:limOk a) (hk:k < 32):limOk (shL a k):=fun x hx=>by
 obtain ⟨i,_,rfl⟩:=List.mem_map.1 hx
 exact shf_lt h hk i
theorem shL_val {a:List Nat} {k:Nat}:valN (shL a k)=valN a*2 ^ k:=by
 rw [←val_sum (l:=shL a k) (n:=a.length+1) (by rw [shL_len];exact Nat.le_refl _),←shf_val (l:=a) (k:=k) (n:=a.length+1) (by omega)]
 exact sumW_le fun i hi=>lmb_of (shL_get (by omega))
theorem pad_get {a:List Nat} {i:Nat} (h:i≤a.length):(a++[0])[i]?=some (lmb a i):=by
 by_cases e:i=a.length
 ·subst e;rw [lmb_ge (Nat.le_refl _)];simp
 ·rw [List.getElem?_append_left (by omega),List.getElem?_eq_getElem (by omega),lmb_of (List.getElem?_eq_getElem (by omega))]
theorem shB_next {a:List Nat} {k i:Nat} (h:i≤a.length):shB a k (i+1)=(a++[0]).take i++(lmb a i::(shL a k).drop (i+1)):=by
 unfold shB
 rw [List.take_add_one,pad_get h,Option.toList_some,List.append_assoc];rfl
theorem shB_this {a:List Nat} {k i:Nat} (h:i≤a.length):shB a k i=(a++[0]).take i++(shf a k i::(shL a k).drop (i+1)):=by
 unfold shB
 have hl:i < (shL a k).length:=by rw [shL_len];omega
 rw [List.drop_eq_getElem_cons hl]
 have:=List.getElem?_eq_getElem hl
 rw [shL_get h] at this
 rw [←Option.some.inj this]
theorem shB_start {a:List Nat} {k:Nat}:shB a k (a.length+1)=a++[0]:=by
 unfold shB
 rw [List.take_of_length_le (by simp),List.drop_of_length_le (by rw [shL_len];exact Nat.le_refl _),List.append_nil]
theorem shB_end {a:List Nat} {k:Nat}:shB a k 0=shL a k:=by simp [shB]
theorem pad_len {a:List Nat} {i:Nat} (h:i≤a.length):((a++[0]).take i).length=i:=by simp;omega
theorem mid_at {T D:List Nat} {x i:Nat} (h:T.length=i):(T++(x::D))[i]?=some x:=by
 subst h;simp
theorem mid_put {T D:List Nat} {x v i:Nat} (h:T.length=i):(T++(x::D)).set i v=T++(v::D):=by
 subst h;simp
theorem shB_prev {a:List Nat} {k i x:Nat} {D:List Nat} (h:i+1≤a.length):((a++[0]).take (i+1)++(x::D))[i]?=some (lmb a i):=by
 rw [List.getElem?_append_left (by rw [pad_len h];omega),List.getElem?_take_of_lt (by omega),pad_get (by omega)]
end Go.Proofs.YtigdhgbkgfagiaaGreat
namespace Go.Proofs.YtigdhgbkgfagiaaGreat
def tkF (v:List Nat) (q i:Nat):Nat:=q*lmb v i
def tkB (v:List Nat) (q i:Nat):Nat:=if i < v.length then (tkF v q i+cy (tkF v q) 0 i) % W32 else cy (tkF v q) 0 v.length
def tkA (o:List Nat) (off i:Nat):Nat:=lmb o (off+i)
def tkO (o:List Nat) (off:Nat) (v:List Nat) (q:Nat):List Nat:=o.take off++(sb (tkA o off) (tkB v q) 0 (v.length+1)++o.drop (off+(v.length+1)))
def tkW (o:List Nat) (off:Nat) (v:List Nat) (q:Nat):Nat:=bw (tkA o off) (tkB v q) 0 (v.length+1)
theorem tkF_lt {v:List Nat} {q:Nat} (kv:limOk v) (hq:q < W32) (i:Nat):tkF v q i+W32≤W32*W32:=by
 unfold tkF
 have h1:=lmb_lt kv i
 have h3:q*lmb v i≤(W32 - 1)*(W32 - 1):=Nat.mul_le_mul (by omega) (by omega)
 have h4:(W32 - 1)*(W32 - 1)+W32+W32=W32*W32+1:=by decide
 omega
theorem tkB_lt {v:List Nat} {q:Nat} (kv:limOk v) (hq:q < W32) (i:Nat):tkB v q i < W32:=by
 unfold tkB
 split
 ·exact Nat.mod_lt _ W32_pos
 ·exact cy_lt (tkF_lt kv hq) _
theorem lm_sum (f:Nat→Nat):∀n,valN (lm f 0 n)=sumW (fun i=>(f i+cy f 0 i) % W32) n
 | 0=>rfl
 | n+1=>by
  show valN (lm f 0 n++[(f n+cy f 0 n) % W32])=sumW _ n+(f n+cy f 0 n) % W32*W32 ^ n
  rw [val_snoc,lm_len,lm_sum f n]
theorem tkB_sum {v:List Nat} {q:Nat}:sumW (tkB v q) (v.length+1)=q*valN v:=by
 show sumW (tkB v q) v.length+tkB v q v.length*W32 ^ v.length=q*valN v
 have e1:=lm_val (tkF v q) 0 v.length
 have e2:sumW (tkB v q) v.length=valN (lm (tkF v q) 0 v.length):=by
  rw [lm_sum]
  exact sumW_le fun i hi=>if_pos hi
 have e3:tkB v q v.length=cy (tkF v q) 0 v.length:=if_neg (Nat.lt_irrefl _)
 have e4:sumW (tkF v q) v.length=q*valN v:=by
  rw [←val_sum (Nat.le_refl v.length),←sumW_mul];rfl
 rw [e2,e3]
 omega
theorem tk_val {o v:List Nat} {off q:Nat} (ko:limOk o) (kv:limOk v) (hq:q < W32):valN (sb (tkA o off) (tkB v q) 0 (v.length+1))+q*valN v=valN ((o.drop off).take (v.length+1))+tkW o off v q*W32 ^ (v.length+1):=by
 have e:=sb_val (a:=tkA o off) (b:=tkB v q) (c:=0) (by decide) (n:=v.length+1) fun i _=>⟨lmb_lt ko _,tkB_lt kv hq i⟩
 rw [tkB_sum] at e
 rw [←sumW_drop]
 exact e
theorem tk_bw {o v:List Nat} {off q:Nat}:tkW o off v q≤1:=bw_le _ _ (by decide) _
theorem tkO_len {o v:List Nat} {off q:Nat} (h:off+(v.length+1)≤o.length):(tkO o off v q).length=o.length:=by
 unfold tkO
 simp only [List.length_append,List.length_take,sb_len,List.length_drop];omega
theorem tkO_ok {o v:List Nat} {off q:Nat} (ko:limOk o):limOk (tkO o off v q):=limOk_app.2 ⟨limOk_take _ ko,limOk_app.2 ⟨sb_ok _ _ _ _,limOk_drop _ ko⟩⟩
def tkM (o:List Nat) (off:Nat) (v:List Nat) (q j:Nat):List Nat:=o.take off++(sb (tkA o off) (tkB v q) 0 j++o.drop (off+j))
theorem tkM_zero {o v:List Nat} {off q:Nat}:tkM o off v q 0=o:=List.take_append_drop off o
theorem tkM_get {o v:List Nat} {off q j x:Nat} (h:o[off+j]?=some x):(tkM o off v q j)[off+j]?=some x:=by
 have hl:=(List.getElem?_eq_some_iff.1 h).1
 unfold tkM
 rw [List.getElem?_append_right (by simp;omega),List.getElem?_append_right (by simp [sb_len];omega),List.length_take,sb_len,Nat.min_eq_left (by omega),show off+j - off - j=0 by omega,List.getElem?_drop,Nat.add_zero,h]
theorem tkM_set {o v:List Nat} {off q j x:Nat} (h:o[off+j]?=some x):(tkM o off v q j).set (off+j) ((x+W32 - tkB v q j - bw (tkA o off) (tkB v q) 0 j) % W32)=tkM o off v q (j+1):=by
 have hl:=(List.getElem?_eq_some_iff.1 h).1
 have hx:tkA o off j=x:=lmb_of h
 unfold tkM
 rw [List.set_append_right _ _ (by simp;omega),List.set_append_right _ _ (by simp [sb_len];omega),List.length_take,sb_len,Nat.min_eq_left (by omega),show off+j - off - j=0 by omega,List.drop_eq_getElem_cons hl,List.set_cons_zero]
 show _=o.take off++((sb _ _ 0 j++[(tkA o off j+W32 - tkB v q j - bw (tkA o off) (tkB v q) 0 j) % W32])++o.drop (off+(j+1)))
 rw [List.append_assoc,hx];rfl
theorem tk_next {o v:List Nat} {off q j:Nat}:bw (tkA o off) (tkB v q) 0 (j+1)=if tkA o off j < tkB v q j+bw (tkA o off) (tkB v q) 0 j then 1 else 0:=rfl
theorem bk_val {o v:List Nat} {off:Nat} (h:off+v.length < o.length):valN (((fun i=>lmb o (off+i)+lmb v i) |> fun F=>lm F 0 v.length++[(lmb o (off+v.length)+cy F 0 v.length) % W32]))=(valN ((o.drop off).take (v.length+1))+valN v) % W32 ^ (v.length+1):=by
 show valN (lm (fun i=>lmb o (off+i)+lmb v i) 0 v.length++[(lmb o (off+v.length)+cy (fun i=>lmb o (off+i)+lmb v i) 0 v.length) % W32])=_
 rw [window_val,sumW_add,val_sum (Nat.le_refl _),←sumW_drop]
 show _=(sumW (fun i=>lmb o (off+i)) v.length+lmb o (off+v.length)*W32 ^ v.length+valN v) % _
 congr 1
 omega
end Go.Proofs.YtigdhgbkgfagiaaGreat
namespace Go.Proofs.YtigdhgbkgfagiaaGreat
structure LI (u0 v:List Nat) (k:Nat) (o Q:List Nat):Prop where
 ol:o.length=u0.length
 ok:limOk o
 lo:o.take k=u0.take k
 hi:valN (o.drop k)=valN (u0.drop k) % valN v
 ql:Q.length+v.length=u0.length
 qk:limOk Q
 qh:valN (Q.drop k)=valN (u0.drop k) / valN v
theorem drop_val {l:List Nat} {k:Nat} (h:k < l.length):valN (l.drop k)=lmb l k+W32*valN (l.drop (k+1)):=by
 rw [List.drop_eq_getElem_cons h,lmb_of (List.getElem?_eq_getElem h)];rfl
theorem lmb_take {a b:List Nat} {k i:Nat} (h:a.take k=b.take k) (hi:i < k):lmb a i=lmb b i:=by
 have e:=congrArg (fun l=>l[i]?) h
 simp only [List.getElem?_take_of_lt hi] at e
 unfold lmb
 rw [List.getD_eq_getElem?_getD,List.getD_eq_getElem?_getD,e]
theorem lmb_drop (o:List Nat) (k i:Nat):lmb (o.drop k) i=lmb o (k+i):=by
 unfold lmb
 rw [List.getD_eq_getElem?_getD,List.getD_eq_getElem?_getD,List.getElem?_drop]
theorem val_top2 (l:List Nat) (p:Nat):valN (l.take (p+2))=(lmb l (p+1)*W32+lmb l p)*W32 ^ p+valN (l.take p):=by
 rw [val_take,val_take]
 show sumW (lmb l) p+lmb l p*W32 ^ p+lmb l (p+1)*W32 ^ (p+1)=_
 rw [Nat.pow_succ,Nat.add_mul,Nat.mul_comm (W32 ^ p) W32,Nat.mul_assoc]
 omega
theorem val_top3 (l:List Nat) (p:Nat):valN (l.take (p+3))=((lmb l (p+2)*W32+lmb l (p+1))*W32+lmb l p)*W32 ^ p+valN (l.take p):=by
 rw [val_take,val_take]
 show sumW (lmb l) p+lmb l p*W32 ^ p+lmb l (p+1)*W32 ^ (p+1)+lmb l (p+2)*W32 ^ (p+2)=_
 have h1:W32 ^ (p+1)=W32 ^ p*W32:=Nat.pow_succ _ _
 have h2:W32 ^ (p+2)=W32 ^ p*W32*W32:=by rw [←h1];exact Nat.pow_succ _ _
 rw [h1,h2]
 generalize W32 ^ p=P
 generalize W32=W
 grind
section
variable {u0 v o Q:List Nat} {k:Nat}
structure Win (u0 v o:List Nat) (k:Nat):Prop where
 val:valN ((o.drop k).take (v.length+1))=valN (o.drop k)
 up:valN (o.drop (k+(v.length+1)))=0
 n:valN (o.drop k)=lmb u0 k+W32*(valN (u0.drop (k+1)) % valN v)
 lt:valN (o.drop k) < valN v*W32
theorem LI.win (h:LI u0 v (k+1) o Q) (kv:limOk v) (hv:0 < valN v) (hk:k < Q.length):Win u0 v o k:=by
 have hol:=h.ol
 have hql:=h.ql
 have hko:k < o.length:=by omega
 have e1:=drop_val hko
 have e2:lmb o k=lmb u0 k:=lmb_take h.lo (by omega)
 have e3:=h.hi
 have e4:=Nat.mod_lt (valN (u0.drop (k+1))) hv
 have e5:=valN_lt kv
 have hup:valN (o.drop (k+(v.length+1)))=0:=by
  have f1:=valN_app ((o.drop (k+1)).take v.length) ((o.drop (k+1)).drop v.length)
  rw [List.take_append_drop,List.drop_drop,List.length_take,List.length_drop,Nat.min_eq_left (by omega)] at f1
  rw [show k+1+v.length=k+(v.length+1) by omega] at f1
  refine Decidable.byContradiction fun hne=>?_
  have f2:=Nat.mul_le_mul_left (W32 ^ v.length) (show 1≤valN (o.drop (k+(v.length+1))) by omega)
  rw [Nat.mul_one] at f2
  omega
 refine ⟨?_,hup,?_,?_⟩
 ·have f1:=valN_app ((o.drop k).take (v.length+1)) ((o.drop k).drop (v.length+1))
  rw [List.take_append_drop,List.drop_drop,hup,Nat.mul_zero] at f1
  omega
 ·rw [e1,e2,e3]
 ·rw [e1,e3]
  have f1:=lmb_lt h.ok k
  have f2:=Nat.mul_le_mul_left W32 e4
  rw [Nat.mul_succ] at f2
  rw [Nat.mul_comm (valN v)]
  omega
theorem LI.next {win:List Nat} {d:Nat} (h:LI u0 v (k+1) o Q) (kv:limOk v) (hv:0 < valN v) (hk:k < Q.length) (hw:win.length=v.length+1) (kw:limOk win) (hval:valN win=valN (o.drop k) % valN v) (hd:d=valN (o.drop k) / valN v) (hd2:d < W32):LI u0 v k (o.take k++(win++o.drop (k+(v.length+1)))) (Q.set k d):=by
 have w:=h.win kv hv hk
 have hol:=h.ol
 have hql:=h.ql
 have hko:k < u0.length:=by omega
 have e0:=drop_val hko
 obtain ⟨s1,s2⟩:=div_step hv (lmb u0 k) (valN (u0.drop (k+1)))
 rw [←e0,←w.n] at s1 s2
 have ht:(o.take k).length=k:=by rw [List.length_take];omega
 refine ⟨?_,limOk_app.2 ⟨limOk_take _ h.ok,limOk_app.2 ⟨kw,limOk_drop _ h.ok⟩⟩,?_,?_,by simpa using hql,limOk_set h.qk hd2,?_⟩
 ·simp only [List.length_append,List.length_take,List.length_drop,hw];omega
 ·rw [List.take_left' ht]
  have:=congrArg (List.take k) h.lo
  rwa [List.take_take,List.take_take,Nat.min_eq_left (by omega)] at this
 ·rw [List.drop_left' ht,valN_app,w.up,Nat.mul_zero,Nat.add_zero,hval,s2]
 ·have hkq:k < (Q.set k d).length:=by simpa using hk
  rw [drop_val hkq,lmb_of (l:=Q.set k d) (x:=d) (by simp [hk]),List.drop_set_of_lt (by omega),h.qh,s1,hd]
  omega
theorem LI.sub {q:Nat} (h:LI u0 v (k+1) o Q) (kv:limOk v) (hv:0 < valN v) (hk:k < Q.length) (hq:q < W32) (h1:valN (o.drop k) / valN v≤q) (h2:q≤valN (o.drop k) / valN v+1) (hb:tkW o k v q=0):LI u0 v k (tkO o k v q) (Q.set k q):=by
 have w:=h.win kv hv hk
 have t:=tk_val (off:=k) h.ok kv hq
 rw [hb,Nat.zero_mul,Nat.add_zero,w.val] at t
 have hs:(sb (tkA o k) (tkB v q) 0 (v.length+1)).length=v.length+1:=sb_len _ _ _ _
 rcases digit_ok hv h1 h2 with ⟨d1,d2,d3⟩|⟨d1,_⟩
 ·exact h.next kv hv hk hs (sb_ok _ _ _ _) (by omega) d2.symm hq
 ·omega
theorem LI.back {q:Nat} (h:LI u0 v (k+1) o Q) (kv:limOk v) (hv:0 < valN v) (hk:k < Q.length) (hq:q < W32) (h1:valN (o.drop k) / valN v≤q) (h2:q≤valN (o.drop k) / valN v+1) (hb:tkW o k v q=1):1≤q∧LI u0 v k ((tkO o k v q).take k++(lm (fun i=>lmb (tkO o k v q) (k+i)+lmb v i) 0 v.length++((lmb (tkO o k v q) (k+v.length)+cy (fun i=>lmb (tkO o k v q) (k+i)+lmb v i) 0 v.length) % W32::(tkO o k v q).drop (k+v.length+1)))) (Q.set k (q - 1)):=by
 have w:=h.win kv hv hk
 have hol:=h.ol
 have hql:=h.ql
 have t:=tk_val (off:=k) h.ok kv hq
 rw [hb,Nat.one_mul,w.val] at t
 have hs:(sb (tkA o k) (tkB v q) 0 (v.length+1)).length=v.length+1:=sb_len _ _ _ _
 have hsl:=valN_lt (sb_ok (tkA o k) (tkB v q) 0 (v.length+1))
 rw [hs] at hsl
 have ht:(o.take k).length=k:=by rw [List.length_take];omega
 have hlen:(tkO o k v q).length=o.length:=tkO_len (by omega)
 have g1:(tkO o k v q).take k=o.take k:=by unfold tkO;exact List.take_left' ht
 have g2:(tkO o k v q).drop (k+v.length+1)=o.drop (k+(v.length+1)):=by
  unfold tkO
  rw [show k+v.length+1=k+(v.length+1) by omega,←List.drop_drop,List.drop_left' ht,List.drop_left' hs]
 have g3:((tkO o k v q).drop k).take (v.length+1)=sb (tkA o k) (tkB v q) 0 (v.length+1):=by
  unfold tkO
  rw [List.drop_left' ht,List.take_left' hs]
 have b:=bk_val (o:=tkO o k v q) (v:=v) (off:=k) (by omega)
 rw [g3] at b
 rcases digit_ok hv h1 h2 with ⟨d1,_,_⟩|⟨d1,d2,d3,d4⟩
 ·omega
 ·refine ⟨d2,?_⟩
  have hVn:valN v < W32 ^ (v.length+1):=Nat.lt_of_lt_of_le (valN_lt kv) (Nat.pow_le_pow_right W32_pos (by omega))
  have hm:=Nat.mod_lt (valN (o.drop k)) hv
  have hq1:q*valN v=(q - 1)*valN v+valN v:=by rw [←Nat.succ_mul];congr 1;omega
  have hq2:=Nat.div_mul_le_self (valN (o.drop k)) (valN v)
  rw [d3] at hq2
  have hb2:(valN (sb (tkA o k) (tkB v q) 0 (v.length+1))+valN v) % W32 ^ (v.length+1)=valN (o.drop k) % valN v:=by
   rw [show valN (sb (tkA o k) (tkB v q) 0 (v.length+1))+valN v=valN (o.drop k) % valN v+W32 ^ (v.length+1) by omega,Nat.add_mod_right,Nat.mod_eq_of_lt (by omega)]
  rw [hb2] at b
  have key:=h.next (win:=lm (fun i=>lmb (tkO o k v q) (k+i)+lmb v i) 0 v.length++[(lmb (tkO o k v q) (k+v.length)+cy (fun i=>lmb (tkO o k v q) (k+i)+lmb v i) 0 v.length) % W32]) (d:=q - 1) kv hv hk (by rw [List.length_append,lm_len];rfl) (limOk_app.2 ⟨lm_ok _ _ _,limOk_cons.2 ⟨Nat.mod_lt _ W32_pos,limOk_nil⟩⟩) b d3.symm (by omega)
  rw [g1,g2]
  rw [List.append_assoc] at key
  exact key
end
end Go.Proofs.YtigdhgbkgfagiaaGreat
namespace Go.Proofs.YtigdhgbkgfagiaaGreat
structure LD (a b v:List Nat) (by_:Nat):Prop where
 ka:limOk a
 kb:limOk b
 kv:limOk v
 lt:by_ < 32
 vl:v.length=b.length
 vv:valN v=valN b*2 ^ by_
 top:W32≤2*lmb v (v.length - 1)
 two:2≤b.length
 le:b.length≤a.length
section
variable {a b v o Q:List Nat} {by_ k:Nat} (g:LD a b v by_)
include g
theorem LD.V_pos:0 < valN v:=by
 have h1:=g.top
 have h2:=g.two
 have h3:=g.vl
 have h4:=W32_pos
 rw [←val_sum (Nat.le_refl v.length)]
 obtain ⟨n,hn⟩:∃n,v.length=n+1:=⟨v.length - 1,by omega⟩
 rw [hn] at h1 ⊢
 rw [Nat.add_sub_cancel] at h1
 show 0 < sumW (lmb v) n+lmb v n*W32 ^ n
 have:=Nat.mul_le_mul_right (W32 ^ n) (show 1≤lmb v n by omega)
 have:=Nat.pos_pow_of_pos_aux n
 omega
where Nat.pos_pow_of_pos_aux (n:Nat):0 < W32 ^ n:=Nat.pow_pos W32_pos
theorem LD.start:LI (shL a by_) v (a.length+1 - b.length) (shL a by_) (List.replicate (a.length+1 - b.length) 0):=by
 have h1:=g.le
 have h2:=g.two
 have h3:=g.vl
 have hl:(shL a by_).length=a.length+1:=shL_len
 have kl:=shL_ok g.ka g.lt
 have hlt:valN ((shL a by_).drop (a.length+1 - b.length)) < valN v:=by
  refine val_first (limOk_drop _ kl) g.kv (by rw [List.length_drop,hl];omega) (i:=v.length - 1) (by rw [List.length_drop,hl];omega) ?_ (fun i h4 h5=>by rw [List.length_drop,hl] at h5;omega)
  rw [lmb_drop,show a.length+1 - b.length+(v.length - 1)=a.length by omega,lmb_of (shL_get (Nat.le_refl _))]
  have e1:shf a by_ a.length=lmb a (a.length - 1)*2 ^ by_ / W32:=by
   unfold shf
   rw [lmb_ge (Nat.le_refl _),Nat.zero_mul,Nat.zero_mod,if_neg (by omega),Nat.zero_add]
  rw [e1]
  have e2:=shl_lo (k:=by_) (lmb_lt g.ka (a.length - 1))
  have e3:2 ^ by_≤2 ^ 31:=Nat.pow_le_pow_right (by decide) (by have:=g.lt;omega)
  have e4:=g.top
  have e5:W32=2*2 ^ 31:=by decide
  omega
 refine ⟨rfl,kl,rfl,(Nat.mod_eq_of_lt hlt).symm,by rw [List.length_replicate,hl];omega,limOk_rep _,?_⟩
 rw [Nat.div_eq_of_lt hlt,List.drop_of_length_le (by simp)];rfl
theorem LD.guess {u0:List Nat} (hu:u0.length=a.length+1) (h:LI u0 v (k+1) o Q) (hk:k < Q.length):Gs (lmb o (k+v.length)*W32+lmb o (k+v.length - 1)) (lmb o (k+v.length - 2)) (lmb v (v.length - 1)) (lmb v (v.length - 2)) (W32 ^ (v.length - 2)) (valN ((o.drop k).take (v.length - 2))) (valN (v.take (v.length - 2))) (valN (o.drop k)) (valN v):=by
 have w:=h.win g.kv g.V_pos hk
 have h2:=g.two
 have h3:=g.vl
 have hv:=val_top2 v (v.length - 2)
 have hw:=val_top3 (o.drop k) (v.length - 2)
 have t1:=g.top
 rw [show v.length - 2+2=v.length by omega,List.take_length,show v.length - 2+1=v.length - 1 by omega] at hv
 rw [show v.length - 2+3=v.length+1 by omega,w.val,lmb_drop,lmb_drop,lmb_drop,show k+(v.length - 2+2)=k+v.length by omega,show k+(v.length - 2+1)=k+v.length - 1 by omega,show k+(v.length - 2)=k+v.length - 2 by omega] at hw
 have b1:=valN_lt (limOk_take (v.length - 2) (limOk_drop k h.ok))
 have b2:=valN_lt (limOk_take (v.length - 2) g.kv)
 have hol:=h.ol
 have hql:=h.ql
 rw [List.length_take,List.length_drop,Nat.min_eq_left (by omega)] at b1
 rw [List.length_take,Nat.min_eq_left (by omega)] at b2
 exact ⟨hw,hv,b1,b2,lmb_lt h.ok _,lmb_lt g.kv _,t1,w.lt⟩
theorem LD.last (h:LI (shL a by_) v 0 o Q):valN Q=valN a / valN b∧sumW (shr (lmb o) by_) b.length=valN a % valN b:=by
 have hT:0 < 2 ^ by_:=Nat.two_pow_pos by_
 obtain ⟨s1,s2⟩:=shift_div (valN a) (valN b) (2 ^ by_) hT
 have h1:=h.qh
 have h2:=h.hi
 rw [List.drop_zero,List.drop_zero,shL_val,g.vv] at h1 h2
 rw [s1] at h1
 rw [s2] at h2
 refine ⟨h1,?_⟩
 have hV:=g.V_pos
 have hlt:valN o < W32 ^ b.length:=by
  rw [h2,←s2,←g.vv,←g.vl]
  exact Nat.lt_trans (Nat.mod_lt _ hV) (valN_lt g.kv)
 have hol:=h.ol
 rw [shL_len] at hol
 have hle:=g.le
 have e1:=valN_app (o.take b.length) (o.drop b.length)
 rw [List.take_append_drop,List.length_take,Nat.min_eq_left (by omega),val_take] at e1
 have e2:valN (o.drop b.length)=0:=by
  refine Decidable.byContradiction fun hne=>?_
  have f:=Nat.mul_le_mul_left (W32 ^ b.length) (show 1≤valN (o.drop b.length) by omega)
  rw [Nat.mul_one] at f
  omega
 have e3:lmb o b.length=0:=by
  have:=drop_val (l:=o) (k:=b.length) (by omega)
  omega
 have e4:=shr_sum g.lt (lmb_lt h.ok) b.length
 rw [e3,Nat.zero_mod,Nat.zero_mul,Nat.add_zero] at e4
 rw [e2,Nat.mul_zero,Nat.add_zero] at e1
 have e5:lmb o 0 % 2 ^ by_=0:=by
  have f1:=drop_val (l:=o) (k:=0) (by omega)
  rw [List.drop_zero,h2] at f1
  have f2:W32=2 ^ by_*2 ^ (32 - by_):=pow_split g.lt
  have f3:lmb o 0=valN a % valN b*2 ^ by_ - W32*valN (o.drop (0+1)):=by omega
  have f4:(lmb o 0+W32*valN (o.drop (0+1))) % 2 ^ by_=0:=by rw [←f1,Nat.mul_mod_left]
  rw [f2,Nat.mul_assoc,Nat.add_mul_mod_self_left] at f4
  exact f4
 rw [e5,Nat.add_zero,←e1,h2] at e4
 exact Nat.eq_of_mul_eq_mul_right hT e4
end
end Go.Proofs.YtigdhgbkgfagiaaGreat
