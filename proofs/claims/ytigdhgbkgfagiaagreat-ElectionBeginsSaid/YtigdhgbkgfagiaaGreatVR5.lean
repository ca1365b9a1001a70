/- A call that eats blocks: it sees them as values, and nobody may touch them afterwards. · Numbers: the reference's Mul, walked. · Terms, by the reference: fractions compared, MayTerms, walked. · Terms, by the reference: MayTerms, walked. -/
import Derived.Test.YtigdhgbkgfagiaaGreatVM1
import Derived.Test.YtigdhgbkgfagiaaGreatVM2
import Derived.Test.YtigdhgbkgfagiaaGreatVN4
import Derived.Test.YtigdhgbkgfagiaaGreatVR1
import Derived.Test.YtigdhgbkgfagiaaGreatVR2
import Derived.Test.YtigdhgbkgfagiaaGreatVRl
set_option maxRecDepth 100000
set_option linter.unusedVariables false
namespace Go.Proofs.YtigdhgbkgfagiaaGreat
def okEat (n:Nat) (src:List (Option Nat)):Bool:=src.length == n&&(nodupO src&&(List.range n).all fun i=>match src[i]? with|some (some j)=>j == i|_=>true)
theorem AFn.eat {L:Lib} {k:Nat} {vs:List V} {H:Heap} {Post:V→Heap→Prop} (src:List (Option Nat)) (fz:List Nat) (ho:okEat H.length src=true) (h:AFn L (.fn k) (vs.map (V.ren (sgOf H src fz))) (H.sh src fz) Post):AFn L (.fn k) vs H Post:=by
 unfold okEat at ho
 simp only [Bool.and_eq_true,beq_iff_eq,List.all_eq_true] at ho
 obtain ⟨hlen,hn,hall⟩:=ho
 have hid:∀i a,src[i]?=some (some a)→a=i:=fun i a hi=>by
  have:=hall i (List.mem_range.2 (by rw [←hlen];exact (List.getElem?_eq_some_iff.1 hi).1))
  rw [hi] at this
  simpa using this
 have hshl:(H.sh src fz).length=H.length:=by unfold Heap.sh;rw [List.length_map,hlen]
 intro C hC A w β xs hA hd hh hg ha
 have hag:=Agr.self H src fz
 have hlive:∀b,Live (shβ src β) (H.sh src fz).get b→Live β H.get b:=fun b hb=>by
  obtain ⟨k,a,h1,h2,h3⟩:=sh_live hag hb
  exact ⟨a,h2,h3⟩
 have himm:∀b,Imm A w β H.get b→Imm A w (shβ src β) (H.sh src fz).get b:=fun b hb=>⟨hb.lt,fun h=>hb.free (hlive b h),hb.al,hb.arr⟩
 have hren:RenOk C.N w (Imm A w (shβ src β) (H.sh src fz).get) (sgOf H src fz) β (shβ src β):=sh_renOk hag hh himm (fun a b s rows h1 h2 h3 h4=>by
  have h3':H.get a≠none:=by rw [h3];simp
  obtain ⟨b',g1,g2,g3⟩:=hh.at' a _ h3
  rw [h4] at g1;cases g1
  refine ⟨g2,fun hl=>?_,hA b (.inr ⟨a,h3',h4⟩),?_⟩
  rotate_left
  ·obtain ⟨cells,T,fz',q1,_⟩:=g3
   exact ⟨cells,T,fz',q1⟩
  ·obtain ⟨k,a',g1,g2,g3⟩:=sh_live hag hl
   have:=hh.inj a a' b h3' g2 h4 g3
   subst this
   exact posIn_none h2 k g1)
 have hsub:∀i b,shβ src β i=some b→β i=some b:=fun i b hb=>by
  unfold shβ at hb
  cases hq:src[i]? with
  | none=>rw [hq] at hb;simp at hb
  | some o=>
   cases o with
   | none=>rw [hq] at hb;simp at hb
   | some a=>rw [hq] at hb;rw [←hid i a hq];simpa using hb
 refine RunAt.mono (RunAt.of_sub (src:=src) (t':=.fn k) rfl (h C hC A w (shβ src β) xs (fun b hb=>hb.elim (fun h=>hA b (.inl h)) fun h=>hA b (.inr (hlive b h))) (fun a ha'=>?_) (sh_heap hag hn hh himm hren) (fun g k v h1 h2=>(hg g k v h1 h2).mono himm (fun _ _=>rfl) (fun _ _ h=>h) (fun _ _ h=>h)) ⟨by simpa using ha.1,fun i v x hv hx=>?_⟩)) ?_
 ·rw [hshl] at ha'
  have:src[a]?=none:=List.getElem?_eq_none (by omega)
  simp [shβ,this]
 ·rw [List.getElem?_map] at hv
  cases hq:vs[i]? with
  | none=>rw [hq] at hv;cases hv
  | some v0=>rw [hq] at hv;simp at hv;rw [←hv];exact (ha.2 i v0 x hq hx).ren himm hren
 rintro e w' ⟨v,r,H',β',h1,hp,h3,h4,h5,h6,h7,h8,h9⟩
 rw [hshl] at h3 h5
 have hm:∀a b,β' a=some b→(fun a=>if a < H.length then β a else β' a) a=some b:=fun a b hab=>by
  dsimp only
  by_cases c:a < H.length
  ·rw [if_pos c]
   rw [h5 a c] at hab
   exact hsub a b hab
  ·rw [if_neg c];exact hab
 have hatq:∀a,H'.get a≠none→(fun a=>if a < H.length then β a else β' a) a=β' a:=fun a hq=>by
  obtain ⟨bk,hb⟩:=Option.ne_none_iff_exists'.1 hq
  obtain ⟨b,q1,_,_⟩:=h6.at' a bk hb
  rw [q1]
  exact hm a b q1
 have hlv:∀b,Live (fun a=>if a < H.length then β a else β' a) H'.get b→Live β' H'.get b:=fun b ⟨a,q1,q2⟩=>⟨a,q1,by rw [←hatq a q1];exact q2⟩
 have him2:∀b,Imm A w' β' H'.get b→Imm A w' (fun a=>if a < H.length then β a else β' a) H'.get b:=fun b hb=>⟨hb.lt,fun h=>hb.free (hlv b h),hb.al,hb.arr⟩
 refine ⟨v,r,H',fun a=>if a < H.length then β a else β' a,h1,hp,h3,fun a ha'=>?_,fun a ha'=>if_pos ha',⟨fun a bk hk=>?_,fun a a' b q1 q2 q3 q4=>?_⟩,h7.mono him2 (fun _ _=>rfl) (fun _ _ h=>h) hm,fun b hb=>?_,?_⟩
 ·show (if a < H.length then β a else β' a)=none
  rw [if_neg (by omega)]
  exact h4 a ha'
 ·obtain ⟨b,q1,q2,q3⟩:=h6.at' a bk hk
  exact ⟨b,hm a b q1,q2,q3.mono rfl him2 (fun _ _=>rfl) (fun _ _ h=>h) hm⟩
 ·exact h6.inj a a' b q1 q2 ((hatq a q1).symm.trans q3) ((hatq a' q2).symm.trans q4)
 ·rcases h8 b (hlv b hb) with q|q
  ·exact .inl q
  ·exact .inr (hlive b q)
 ·exact ⟨h9.os,h9.tape,h9.output,h9.size,fun b hb hl=>h9.block b hb (fun h=>hl (hlive b h)),h9.room⟩
theorem opsP_eat {L:Lib} {l:List AI} {K:Env→Heap→Prop} {E:Env} {H:Heap} {d:Option Nat} {anc:List Nat} (src:List (Option Nat)) (fz:List Nat) {k:Nat} {args:List AOpd} {vs vs':List V} {r:V} {H1:Heap} (hv:evals (opval L.G E.get) args=some vs) (ho:okEat H.length src=true) (hvs:vs.map (V.ren (sgOf H src fz))=vs') (hH:H.sh src fz=H1) (hf:VFn L k vs' r) (h:opsP L l K (E.put d r) H1):opsP L (⟨d,.call (.fn k) args,none,anc⟩::l) K E H:=by
 show stepP L ⟨d,.call (.fn k) args,none,anc⟩ (opsP L l K) E H
 unfold stepP AI.goes
 show CallP L E.get H (.fn k) args _
 unfold CallP callee
 rw [hv]
 show AFn L (.fn k) vs H _
 refine AFn.eat src fz ho ?_
 rw [hvs,hH]
 refine AFn.mono (hf.at H1) ?_
 rintro r' H' ⟨rfl,rfl⟩
 exact h
end Go.Proofs.YtigdhgbkgfagiaaGreat
set_option maxHeartbeats 4000000
set_option linter.unusedSimpArgs false
namespace Go.Proofs.YtigdhgbkgfagiaaGreat
def mlF (a:List Nat) (y:Nat) (k:Nat):Nat:=y*lmb a k
theorem mlF_lt {a:List Nat} {y:Nat} (ka:limOk a) (hy:y < W32) (k:Nat):mlF a y k+W32≤W32*W32:=by
 unfold mlF
 have h1:=lmb_lt ka k
 have h2:y*lmb a k≤(W32 - 1)*(W32 - 1):=Nat.mul_le_mul (by omega) (by omega)
 have e:(W32 - 1)*(W32 - 1)+W32≤W32*W32:=by decide
 omega
def rwL (a:List Nat) (y i k:Nat):List Nat:=List.replicate i 0++lm (mlF a y) 0 k
theorem rw_len {a:List Nat} {y i k:Nat}:(rwL a y i k).length=i+k:=by simp [rwL,lm_len]
theorem rw_ok {a:List Nat} {y i k:Nat}:limOk (rwL a y i k):=limOk_app.2 ⟨limOk_rep i,lm_ok _ _ _⟩
theorem rw_next {a:List Nat} {y i k:Nat}:rwL a y i (k+1)=rwL a y i k++[(mlF a y k+cy (mlF a y) 0 k) % W32]:=by
 unfold rwL
 rw [List.append_assoc];rfl
theorem rw_val {a:List Nat} {y i:Nat}:valN (rwL a y i a.length++[cy (mlF a y) 0 a.length])=W32 ^ i*(y*valN a):=by
 have h:=lm_val (mlF a y) 0 a.length
 rw [show sumW (mlF a y) a.length=y*valN a by unfold mlF;rw [sumW_mul,val_sum (Nat.le_refl _)],Nat.add_zero] at h
 unfold rwL
 rw [List.append_assoc,valN_app,valN_rep,List.length_replicate,val_snoc,lm_len,h];omega
def mlO (a b:List Nat) (j:Nat):V:=if j=0 then .lst 0 [] (some 0) else tl nrow 1 (digN (valN a*valN (b.take j))) none
theorem mlO_tl {a b:List Nat} {j:Nat}:∃s c,mlO a b j=tl nrow s (digN (valN a*valN (b.take j))) c∧(s=1∨digN (valN a*valN (b.take j))=[]):=by
 unfold mlO
 by_cases h:j=0
 ·subst h
  refine ⟨0,some 0,?_,.inr ?_⟩
  ·simp [tl,valN,dig_zero]
  ·simp [valN,dig_zero]
 ·exact ⟨1,none,if_neg h,.inl rfl⟩
theorem take_val {b:List Nat} {j x:Nat} (hx:b[j]?=some x):valN (b.take (j+1))=valN (b.take j)+x*W32 ^ j:=by
 rw [val_take,val_take]
 show sumW (lmb b) j+lmb b j*W32 ^ j=_
 rw [lmb_of hx]
theorem mul_step {a b:List Nat} {j x:Nat} (hx:b[j]?=some x):valN a*valN (b.take j)+W32 ^ j*(x*valN a)=valN a*valN (b.take (j+1)):=by
 rw [take_val hx,Nat.mul_add]
 congr 1
 rw [Nat.mul_comm,Nat.mul_comm x,Nat.mul_assoc]
variable {L:Lib} (hL:L.T=tab.get)
include hL
theorem r3mul_v {s t:Nat} {a b:List Nat} {c d:Option Nat} (hs:s=1∨a=[]) (ht:t=1∨b=[]) (ka:limOk a) (kb:limOk b) (la:a.length≤96) (lb:b.length≤96) (sa:shortN a) (sb:shortN b) (hfit:valN a*valN b < W32 ^ 96):VFn L 134 [tl nrow s a c,tl nrow t b d] (.tup [mlO a b b.length,.int .i64 0]):=by
 have hb:bothN a b=0:=by unfold bothN;rw [if_pos (chk_zero.2 ⟨la,sa⟩)];exact chk_zero.2 ⟨lb,sb⟩
 have kbo:=r3both_v hL (c:=c) (d:=d) hs ht (by omega) (by omega)
 rw [hb] at kbo
 have hcl:V.closed (.tup [mlO a b b.length,.int .i64 0])=true:=by
  unfold mlO
  split <;> rfl
 refine VFn.start (F:=T134.1) (by rw [hL];rfl) rfl (by simp [V.closeds,V.closed,tl]) hcl ?_
 refine Wn1 kbo ?_
 refine wWhile rfl (fun j:Nat=>[(0,tl nrow s a c),(1,tl nrow t b d),(7,mlO a b j),(8,V.int .i64 (j:Int))]) (fun _=>[]) (fun j=>b.length - j) (fun j=>j≤b.length) 0 rfl rfl (Nat.zero_le _) ?_
 intro j hj
 by_cases hjb:j < b.length
 ·obtain rfl:=size_of ht hjb
  obtain ⟨x,hx,hm⟩:=get_of hjb
  have hxl:=kb x hm
  have w1:=wrap_succ (show j < 9223372036854775807 by omega)
  obtain ⟨s3,c3,hO,hs3⟩:=mlO_tl (a:=a) (b:=b) (j:=j)
  have hst:=mul_step (a:=a) hx
  have hO1:mlO a b (j+1)=tl nrow 1 (digN (valN a*valN (b.take (j+1)))) none:=if_neg (Nat.succ_ne_zero j)
  have hocl:(mlO a b j).closed=true:=by rw [hO];rfl
  have hOc:(mlO a b (j+1)).closed=true:=by rw [hO1];rfl
  have hlo:(digN (valN a*valN (b.take j))).length≤200:=by
   refine digN_len.2 (Nat.lt_of_lt_of_le (Nat.mul_lt_mul'' (valN_lt ka) (valN_lt (limOk_take j kb))) ?_)
   rw [←Nat.pow_add]
   exact Nat.pow_le_pow_right W32_pos (by rw [List.length_take];omega)
  have hpl:∀(s2:Nat) (c2:Option Nat),VFn L 165 [tl nrow s3 (digN (valN a*valN (b.take j))) c3,tl nrow 1 (rwL a x j a.length++[cy (mlF a x) 0 a.length]) c2] (mlO a b (j+1)):=fun s2 c2=>by
   have:=r3plus_v hL (c:=c3) (d:=c2) hs3 (.inl rfl) dig_ok (limOk_app.2 ⟨rw_ok (a:=a) (y:=x) (i:=j) (k:=a.length),limOk_cons.2 ⟨cy_lt (mlF_lt ka hxl) a.length,limOk_nil⟩⟩) (by omega) (by rw [List.length_append,rw_len];simp;omega)
   rw [dig_val,rw_val,hst] at this
   rw [hO1]
   unfold capP at this
   rw [if_neg (by simp)] at this
   exact this
  rw [←hO] at hpl
  clear hst hO hO1 hs3 hlo
  refine Wf0 (Q3 (show (j:Int) < b.length by omega) (show j*4≤140737488355328 by omega) (show j < 9223372036854775808 by omega)) ?_
  generalize mlO a b j=o at *
  refine wWhile rfl (fun k:Nat=>[(0,tl nrow s a c),(1,tl nrow 1 b d),(7,o),(8,V.int .i64 (j:Int)),(9,.ref 0 1 0 (rwL a x j k).length (if k=0 then some (rwL a x j k).length else none)),(10,.int .u64 (cy (mlF a x) 0 k:Nat)),(11,.int .i64 (k:Int))]) (fun k=>[some (.arr 1 ((rwL a x j k).map nrow))]) (fun k=>a.length - k) (fun k=>k≤a.length) 0 ?_ ?_ (Nat.zero_le _) ?_
  ·rw [rw_len,if_pos rfl];rfl
  ·unfold rwL
   rw [show lm (mlF a x) 0 0=[] from rfl,List.append_nil,List.map_replicate];rfl
  intro k hk
  have hlen:=rw_len (a:=a) (y:=x) (i:=j) (k:=k)
  have hcy:=cy_lt (mlF_lt ka hxl) k
  by_cases hka:k < a.length
  ·obtain rfl:=size_of hs hka
   obtain ⟨y,hy,hmy⟩:=get_of hka
   have hyl:=ka y hmy
   have hsu:=wrap_succ (show k < 9223372036854775807 by omega)
   have hWv:W32=4294967296:=rfl
   have hml:=mlF_lt ka hxl k
   have hsq:=W_sq
   have v1:=wrap_u64 (n:=y) (by omega)
   have v2:=wrap_u64 (n:=x) (by omega)
   have v3:=u64_mul hyl hxl
   have hmf:mlF a x k=y*x:=by unfold mlF;rw [lmb_of hy,Nat.mul_comm]
   have v4:=u64_add (x:=mlF a x k) (n:=cy (mlF a x) 0 k) (by omega)
   rw [←hmf] at v3
   have rm:=remW_i (mlF a x k+cy (mlF a x) 0 k)
   have qu:=quoW_i (z:=mlF a x k+cy (mlF a x) 0 k) (by omega)
   have v5:=wrap_n32 (n:=(mlF a x k+cy (mlF a x) 0 k) % W32) (Nat.mod_lt _ W32_pos)
   have hroom:((rwL a x j k).length+1)*4≤140737488355328:=by omega
   have e1:=rw_next (a:=a) (y:=x) (i:=j) (k:=k)
   have e2:cy (mlF a x) 0 (k+1)=(mlF a x k+cy (mlF a x) 0 k) / W32:=rfl
   have hfin:∀(a':Nat) (l:List Nat),l=rwL a x j (k+1)→V.ref 0 1 0 l.length none=.ref 0 1 0 (rwL a x j (k+1)).length (if k+1=0 then some (rwL a x j (k+1)).length else none):=fun a' l h=>by rw [h,if_neg (Nat.succ_ne_zero k)]
   rw [e1] at hfin
   clear hmf hml hsq hWv hcy hpl
   generalize (mlF a x k+cy (mlF a x) 0 k) % W32=p at *
   generalize (mlF a x k+cy (mlF a x) 0 k) / W32=q at *
   generalize mlF a x k+cy (mlF a x) 0 k=z at *
   generalize mlF a x k=f at *
   generalize cy (mlF a x) 0 k=cc at *
   generalize rwL a x j k=r at *
   by_cases hk0:k=0
   ·rw [if_pos hk0]
    (repeat' (first|refine Z0 ?_|refine Z1 ?_|refine Z2 ?_|simp only [seval,push_cast,↓reduceIte,↓bP_some,↓aP_true,reduceCtorEq,show (k:Int) < a.length by omega,hka,hjb,iaQ_tl hka,iaQ_tl hjb,hx,hy,nrow_eq,nrow_snoc,v1,v2,v3,v4,v5,rm,qu,hroom,hsu,List.drop_zero,show (r.map nrow).take r.length=r.map nrow from List.take_of_length_le (by simp),show ¬r.length+1≤r.length by omega,Nat.le_refl]))
    refine qW_s (k+1) [some 2] [] rfl ?_ ?_ ⟨(show a.length - (k+1) < a.length - k by omega),hka⟩
    ·show _=[(0,tl nrow 1 a c),(1,tl nrow 1 b d),(7,o),(8,V.int IntKind.i64 ↑j),(9,V.ref 0 1 0 (rwL a x j (k+1)).length (if k+1=0 then some (rwL a x j (k+1)).length else none)),(10,V.int IntKind.u64 ↑(cy (mlF a x) 0 (k+1))),(11,V.int IntKind.i64 ((k+1:Nat):Int))]
     rw [e1,e2,if_neg (Nat.succ_ne_zero k),List.length_append]
     exact congrArg (fun v=>[(0,tl nrow 1 a c),(1,tl nrow 1 b d),(7,v),(8,V.int IntKind.i64 ↑j),(9,V.ref 0 1 0 (r.length+1) none),(10,V.int IntKind.u64 ↑q),(11,V.int IntKind.i64 ((k+1:Nat):Int))]) (V.ren_closed _ hocl)
    ·show _=[some (Blk.arr 1 ((rwL a x j (k+1)).map nrow))]
     rw [e1];exact sh_c (sh_b closed_nrow rfl) sh_n
   ·rw [if_neg hk0]
    refine Wf0 (Q5 (show (k:Int) < a.length by omega) hka hjb (iT hka) (Q5 (iT hjb) hx hy @nrow_eq (Q5 @nrow_snoc v1 v2 v3 (Q5 v4 v5 rm qu (Q2 hroom hsu))))) ?_
    refine qW_s (k+1) [some 2] [] rfl ?_ ?_ ⟨(show a.length - (k+1) < a.length - k by omega),hka⟩
    ·show _=[(0,tl nrow 1 a c),(1,tl nrow 1 b d),(7,o),(8,V.int IntKind.i64 ↑j),(9,V.ref 0 1 0 (rwL a x j (k+1)).length (if k+1=0 then some (rwL a x j (k+1)).length else none)),(10,V.int IntKind.u64 ↑(cy (mlF a x) 0 (k+1))),(11,V.int IntKind.i64 ((k+1:Nat):Int))]
     rw [e1,e2,if_neg (Nat.succ_ne_zero k),List.length_append]
     exact congrArg (fun v=>[(0,tl nrow 1 a c),(1,tl nrow 1 b d),(7,v),(8,V.int IntKind.i64 ↑j),(9,V.ref 0 1 0 (r.length+1) none),(10,V.int IntKind.u64 ↑q),(11,V.int IntKind.i64 ((k+1:Nat):Int))]) (V.ren_closed _ hocl)
    ·show _=[some (Blk.arr 1 ((rwL a x j (k+1)).map nrow))]
     rw [e1];exact sh_c (sh_b closed_nrow rfl) sh_n
  ·obtain rfl:k=a.length:=by omega
   have v5:=wrap_n32 hcy
   have hroom:((rwL a x j a.length).length+1)*4≤140737488355328:=by omega
   have hrok:limOk (rwL a x j a.length++[cy (mlF a x) 0 a.length]):=limOk_app.2 ⟨rw_ok,limOk_cons.2 ⟨hcy,limOk_nil⟩⟩
   have hk2:=hpl 1 none
   clear hpl hcy
   generalize cy (mlF a x) 0 a.length=cc at *
   generalize rwL a x j a.length=r at *
   have hfz:∀(H:Heap),H.get 2=some (.arr 1 ((r++[cc]).map nrow))→V.ren (sgOf H [none,none,none] [2]) (.ref 2 1 0 (r.length+1) none)=tl nrow 1 (r++[cc]) none:=fun H h=>by
    have:=frz_refS' (f:=nrow) (n:=1) (l:=r++[cc]) (c:=none) (src:=[none,none,none]) (fz:=[2]) (a:=2) (H:=H) closed_nrow (by decide) rfl (by decide) h
    rw [List.length_append] at this
    exact this
   by_cases hk0:a.length=0
   ·rw [if_pos hk0]
    (repeat' (first|refine Z0 ?_|refine Z1 ?_|refine Z2 ?_|simp only [seval,push_cast,↓reduceIte,↓bP_some,↓aP_true,reduceCtorEq,Int.lt_irrefl,nrow_eq,nrow_snoc,v5,hroom,List.drop_zero,show (r.map nrow).take r.length=r.map nrow from List.take_of_length_le (by simp),show ¬r.length+1≤r.length by omega,Nat.le_refl]))
    refine opsP_eat [none,none,none] [2] (vs:=[o,.ref 2 1 0 (r.length+1) none]) (vs':=[o,tl nrow 1 (r++[cc]) none]) rfl rfl ?_ rfl hk2 ?_
    ·show [V.ren _ o,V.ren _ (.ref 2 1 0 (r.length+1) none)]=_
     rw [V.ren_closed _ hocl,hfz _ rfl]
    refine Wf0 w1 ?_
    refine qW_s (j+1) [] [] rfl ?_ rfl ⟨(show b.length - (j+1) < b.length - j by omega),hjb⟩
    exact congrArg (fun v=>[(0,tl nrow s a c),(1,tl nrow 1 b d),(7,v),(8,V.int IntKind.i64 ((j+1:Nat):Int))]) (V.ren_closed _ hOc)
   ·rw [if_neg hk0]
    refine Xf0 (Q4 @nrow_eq @nrow_snoc v5 hroom) ?_
    refine opsP_eat [none,none,none] [2] (vs:=[o,.ref 2 1 0 (r.length+1) none]) (vs':=[o,tl nrow 1 (r++[cc]) none]) rfl rfl ?_ rfl hk2 ?_
    ·show [V.ren _ o,V.ren _ (.ref 2 1 0 (r.length+1) none)]=_
     rw [V.ren_closed _ hocl,hfz _ rfl]
    refine Wf0 w1 ?_
    refine qW_s (j+1) [] [] rfl ?_ rfl ⟨(show b.length - (j+1) < b.length - j by omega),hjb⟩
    exact congrArg (fun v=>[(0,tl nrow s a c),(1,tl nrow 1 b d),(7,v),(8,V.int IntKind.i64 ((j+1:Nat):Int))]) (V.ren_closed _ hOc)
 ·obtain rfl:j=b.length:=by omega
  have hlen:¬(96:Int) < (digN (valN a*valN b)).length:=by have:=digN_len.2 hfit;omega
  obtain ⟨s3,c3,hO,hs3⟩:=mlO_tl (a:=a) (b:=b) (j:=b.length)
  rw [List.take_of_length_le (Nat.le_refl _)] at hO
  rw [hO] at hcl ⊢
  refine Xf0 hlen ?_
  exact FnQ.ret rfl hcl
end Go.Proofs.YtigdhgbkgfagiaaGreat
namespace Go.Proofs.YtigdhgbkgfagiaaGreat
theorem mlO_full {a b:List Nat}:∃s c,mlO a b b.length=tl nrow s (digN (valN a*valN b)) c∧(s=1∨digN (valN a*valN b)=[]):=by
 have:=mlO_tl (a:=a) (b:=b) (j:=b.length)
 rw [List.take_of_length_le (Nat.le_refl _)] at this
 exact this
variable {L:Lib} (hL:L.T=tab.get)
include hL
theorem r3cmp_v {s t:Nat} {a b:List Nat} {c d:Option Nat} (hs:s=1∨a=[]) (ht:t=1∨b=[]) (ka:limOk a) (kb:limOk b) (la:a.length≤96) (lb:b.length≤96) (sa:shortN a) (sb:shortN b):VFn L 135 [tl nrow s a c,tl nrow t b d] (.tup [.int .i64 (ordN (valN a) (valN b)),.int .i64 0]):=by
 have hb:bothN a b=0:=by unfold bothN;rw [if_pos (chk_zero.2 ⟨la,sa⟩)];exact chk_zero.2 ⟨lb,sb⟩
 have kbo:=r3both_v hL (c:=c) (d:=d) hs ht (by omega) (by omega)
 rw [hb] at kbo
 have k1:=r3less_v hL (c:=c) (d:=d) hs ht (by omega) (by omega) ka kb sa sb
 have k2:=r3less_v hL (c:=d) (d:=c) ht hs (by omega) (by omega) kb ka sb sa
 unfold ordN
 by_cases h1:valN a < valN b
 ·rw [decide_eq_true h1] at k1
  rw [if_pos h1]
  refine VFn.start (F:=T135.1) (by rw [hL];rfl) rfl rfl rfl ?_
  refine Wn2 kbo k1 ?_
  exact FnQ.ret rfl rfl
 ·rw [decide_eq_false h1] at k1
  rw [if_neg h1]
  by_cases h2:valN b < valN a
  ·rw [decide_eq_true h2] at k2
   rw [if_pos h2]
   refine VFn.start (F:=T135.1) (by rw [hL];rfl) rfl rfl rfl ?_
   refine Wn3 kbo k1 k2 ?_
   exact FnQ.ret rfl rfl
  ·rw [decide_eq_false h2] at k2
   rw [if_neg h2]
   refine VFn.start (F:=T135.1) (by rw [hL];rfl) rfl rfl rfl ?_
   refine Wn3 kbo k1 k2 ?_
   exact FnQ.ret rfl rfl
theorem r4side_v {x:Fr} {s t:Nat} {c d:Option Nat} (ln:x.num.length < 4611686018427387904):VFn L 133 [frV x s c t d] (.int .i64 (sideN x)):=by
 obtain ⟨neg,num,den⟩:=x
 unfold frV sideN
 simp only at *
 by_cases h:num=[]
 ·subst h
  rw [if_pos rfl]
  refine VFn.start (F:=T133.1) (by rw [hL];rfl) rfl rfl rfl ?_
  refine Xn0 ?_
  exact FnQ.ret rfl rfl
 ·have h0:¬(num.length:Int)=0:=by have:=List.length_pos_iff.2 h;omega
  rw [if_neg h]
  cases neg with
  | true=>
   refine VFn.start (F:=T133.1) (by rw [hL];rfl) rfl rfl rfl ?_
   refine Wf0 h0 ?_
   exact FnQ.ret rfl rfl
  | false=>
   refine VFn.start (F:=T133.1) (by rw [hL];rfl) rfl rfl rfl ?_
   refine Wf0 h0 ?_
   exact FnQ.ret rfl rfl
theorem r4both_v {x y:Fr} {s t u w:Nat} {c d e f:Option Nat} (hs:s=1∨x.num=[]) (ht:t=1∨x.den=[]) (hu:u=1∨y.num=[]) (hw:w=1∨y.den=[]) (kx:limOk x.num∧limOk x.den) (ky:limOk y.num∧limOk y.den) (ox:okFr x) (oy:okFr y):VFn L 132 [frV x s c t d,frV y u e w f] (.bool true):=by
 obtain ⟨a1,a2⟩:=chk_zero.1 ox.1
 obtain ⟨b1,b2⟩:=chk_zero.1 ox.2.1
 obtain ⟨c1,c2⟩:=chk_zero.1 oy.1
 obtain ⟨d1,d2⟩:=chk_zero.1 oy.2.1
 have k1:=r4check_v hL (c:=c) (d:=d) hs ht (by omega) (by omega) kx.1 kx.2
 have k2:=r4check_v hL (c:=e) (d:=f) hu hw (by omega) (by omega) ky.1 ky.2
 rw [if_pos ox] at k1
 rw [if_pos oy] at k2
 unfold frV at *
 refine VFn.start (F:=T132.1) (by rw [hL];rfl) rfl rfl rfl ?_
 refine Wn2 k1 k2 ?_
 exact FnQ.ret rfl rfl
theorem r4cmp_v {x y:Fr} {s t u w:Nat} {c d e f:Option Nat} (hs:s=1∨x.num=[]) (ht:t=1∨x.den=[]) (hu:u=1∨y.num=[]) (hw:w=1∨y.den=[]) (kx:limOk x.num∧limOk x.den) (ky:limOk y.num∧limOk y.den) (ox:okFr x) (oy:okFr y) (f1:valN x.num*valN y.den < W32 ^ 96) (f2:valN y.num*valN x.den < W32 ^ 96):VFn L 72 [frV x s c t d,frV y u e w f] (.tup [.int .i64 (cmpFr x y),.int .i64 0]):=by
 obtain ⟨a1,a2⟩:=chk_zero.1 ox.1
 obtain ⟨b1,b2⟩:=chk_zero.1 ox.2.1
 obtain ⟨c1,c2⟩:=chk_zero.1 oy.1
 obtain ⟨d1,d2⟩:=chk_zero.1 oy.2.1
 have kb:=r4both_v hL (c:=c) (d:=d) (e:=e) (f:=f) hs ht hu hw kx ky ox oy
 have s1:=r4side_v hL (x:=x) (s:=s) (t:=t) (c:=c) (d:=d) (by omega)
 have s2:=r4side_v hL (x:=y) (s:=u) (t:=w) (c:=e) (d:=f) (by omega)
 have m1:=r3mul_v hL (c:=c) (d:=f) hs hw kx.1 ky.2 a1 d1 a2 d2 f1
 have m2:=r3mul_v hL (c:=e) (d:=d) hu ht ky.1 kx.2 c1 b1 c2 b2 f2
 obtain ⟨g1,p1,q1,r1⟩:=mlO_full (a:=x.num) (b:=y.den)
 obtain ⟨g2,p2,q2,r2⟩:=mlO_full (a:=y.num) (b:=x.den)
 rw [q1] at m1
 rw [q2] at m2
 have kc:=r3cmp_v hL (c:=p1) (d:=p2) r1 r2 dig_ok dig_ok (digN_len.2 f1) (digN_len.2 f2) dig_short dig_short
 rw [dig_val,dig_val] at kc
 have hsx:=side_in x
 have hsy:=side_in y
 have ho:=ord_in (valN x.num*valN y.den) (valN y.num*valN x.den)
 clear q1 q2
 unfold cmpFr
 unfold frV at *
 generalize sideN x=p at *
 generalize sideN y=q at *
 generalize ordN (valN x.num*valN y.den) (valN y.num*valN x.den)=z at *
 generalize valN x.num*valN y.den=A at *
 generalize valN y.num*valN x.den=B at *
 by_cases h1:p < q
 ·rw [if_pos (.inl (by omega)),show clampI (p - q)=-1 by unfold clampI;rw [if_pos (show p - q < 1 by omega),if_neg (by omega)]]
  refine VFn.start (F:=T72.1) (by rw [hL];rfl) rfl rfl rfl ?_
  refine Wf3 h1 kb s1 s2 ?_
  exact FnQ.ret rfl rfl
 by_cases h2:q < p
 ·rw [if_pos (.inl (by omega)),show clampI (p - q)=1 by unfold clampI;rw [if_neg (show ¬p - q < 1 by omega),if_pos (by decide)]]
  refine VFn.start (F:=T72.1) (by rw [hL];rfl) rfl rfl rfl ?_
  refine Wf3 (Q2 h1 h2) kb s1 s2 ?_
  exact FnQ.ret rfl rfl
 obtain rfl:p=q:=by omega
 by_cases h3:p=0
 ·subst h3
  rw [if_pos (.inr rfl),show clampI (0 - 0)=0 by decide]
  refine VFn.start (F:=T72.1) (by rw [hL];rfl) rfl rfl rfl ?_
  refine Wn3 kb s1 s2 ?_
  exact FnQ.ret rfl rfl
 ·rw [if_neg (by omega)]
  have w2:IntKind.i64.wrap (p*z)=p*z:=by
   have:p=1∨p=-1:=by omega
   rcases this with rfl|rfl
   ·rw [Int.one_mul];exact wrap_i64 (by omega) (by omega)
   ·rw [show (-1:Int)*z=-z by omega];exact wrap_i64 (by omega) (by omega)
  refine VFn.start (F:=T72.1) (by rw [hL];rfl) rfl rfl rfl ?_
  refine Xf6 (Q2 h3 w2) kb s1 s2 m1 m2 kc ?_
  exact FnQ.ret rfl rfl
theorem far1_v:VFn L 169 [.int .i64 1] (.int .u64 1):=by
 refine VFn.start (F:=T169.1) (by rw [hL];rfl) rfl rfl rfl ?_
 refine Wn0 ?_
 exact FnQ.ret rfl rfl
theorem r3of1_v:VFn L 168 [.int .u64 1] (tl nrow 1 [1] none):=by
 refine VFn.start (F:=T168.1) (by rw [hL];rfl) rfl rfl rfl ?_
 refine Wn0 ?_
 refine wRoll 2 rfl ?_
 refine Xf0 (Q2 (show binV BinOp.rem (V.int IntKind.u64 1) (V.int IntKind.u64 4294967296)=some (V.int .u64 1) from rfl) (show binV BinOp.quo (V.int IntKind.u64 1) (V.int IntKind.u64 4294967296)=some (V.int .u64 0) from rfl)) ?_
 exact FnQ.frz [1] rfl rfl
omit hL in
theorem small_quo {i:Nat} (h:i < 32):binV .quo (.int .i64 (i:Int)) (.int .i64 32)=some (.int .i64 0):=by
 simp [binV,binInt]
 rw [Int.ediv_eq_zero_of_lt (by omega) (by omega)];rfl
omit hL in
theorem small_rem {i:Nat} (h:i < 32):binV .rem (.int .i64 (i:Int)) (.int .i64 32)=some (.int .i64 i):=by
 simp [binV,binInt]
 rw [Int.tmod_eq_of_lt (by omega) (by omega)]
theorem r3div1_v {c c':Option Nat}:VFn L 197 [tl nrow 1 [1] c,tl nrow 1 [1] c'] (.tup [tl nrow 1 [1] none,tl nrow 1 [] none,.int .i64 0]):=by
 have l1:limOk [1]:=by intro x hx;simp at hx;subst hx;decide
 have l0:limOk []:=by intro x hx;simp at hx
 have s1:shortN [1]:=by simp [shortN]
 have s0:shortN []:=by simp [shortN]
 have kb:=r3both_v hL (s:=1) (t:=1) (a:=[1]) (b:=[1]) (c:=c) (d:=c') (.inl rfl) (.inl rfl) (by simp) (by simp)
 rw [show bothN [1] [1]=0 by decide] at kb
 have kp:∀j:Nat,VFn L 165 [tl nrow (min j 1) [] (some 0),tl nrow (min j 1) [] (some 0)] (tl nrow 1 [] (some 0)):=fun j=>by
  have:=r3plus_v hL (s:=min j 1) (t:=min j 1) (a:=[]) (b:=[]) (c:=some 0) (d:=some 0) (.inr rfl) (.inr rfl) l0 l0 (by simp) (by simp)
  rw [show valN []+valN []=0 from rfl,dig_zero] at this
  exact this
 have kq:VFn L 165 [tl nrow 1 [] (some 0),tl nrow 1 [1] (some 1)] (tl nrow 1 [1] none):=by
  have:=r3plus_v hL (s:=1) (t:=1) (a:=[]) (b:=[1]) (c:=some 0) (d:=some 1) (.inr rfl) (.inl rfl) l0 l1 (by simp) (by simp)
  rw [show valN []+valN [1]=1 from rfl,dig_one] at this
  exact this
 have kl:=r3less_v hL (s:=1) (t:=1) (a:=[]) (b:=[1]) (c:=some 0) (d:=c') (.inr rfl) (.inl rfl) (by simp) (by simp) l0 l1 s0 s1
 rw [show decide (valN [] < valN [1])=true from rfl] at kl
 have kl':=r3less_v hL (s:=1) (t:=1) (a:=[1]) (b:=[1]) (c:=none) (d:=c') (.inl rfl) (.inl rfl) (by simp) (by simp) l1 l1 s1 s1
 rw [show decide (valN [1] < valN [1])=false from rfl] at kl'
 have km:=r3minus_v hL (s:=1) (t:=1) (a:=[1]) (b:=[1]) (c:=none) (d:=c') (.inl rfl) (.inl rfl) l1 l1 s1 (Nat.le_refl _) (by simp) (by simp)
 rw [show valN [1] - valN [1]=0 from rfl,dig_zero,show capT [1]=none from rfl] at km
 have kt:=r3trim_v hL (s:=1) (a:=[1]) (c:=some 1) (.inl rfl) (by simp)
 refine VFn.start (F:=T197.1) (by rw [hL];rfl) rfl rfl rfl ?_
 refine Wn1 kb ?_
 refine wUp rfl 32 (fun j=>[(0,tl nrow 1 [1] c),(1,tl nrow 1 [1] c'),(8,V.ref 0 1 0 1 (some 1)),(9,if j=32 then tl nrow 1 [] none else tl nrow (min j 1) [] (some 0)),(10,.int .i64 (31 - (j:Int)))]) (fun j=>[some (.arr 1 [[.int .u32 (if j=32 then 1 else 0)]])]) (fun _=>True) rfl rfl trivial ?_ ?_
 ·intro j hj _
  obtain ⟨i,hi⟩:∃i:Nat,i+j=31:=⟨31 - j,by omega⟩
  have e1:(31:Int) - j=i:=by omega
  have e2:(31:Int) - (j+1:Nat)=i - 1:=by omega
  have h1:IntKind.u64.wrap (i:Int)=i:=wrap_u64 (by omega)
  have h2:IntKind.i64.wrap ((i:Int) - 1)=i - 1:=wrap_i64 (by omega) (by omega)
  have h3:=small_quo (i:=i) (by omega)
  have h4:=small_rem (i:=i) (by omega)
  have h5:binV .shr (.int .u32 1) (.int .u64 (i:Int))=some (.int .u32 ((1 / 2 ^ i:Nat):Int)):=shr_i (x:=1) (by show i≤32;omega)
  rw [e1,e2,if_neg (show ¬j=32 by omega),if_neg (show ¬j=32 by omega)]
  have h7:iaQ 1 (tl nrow 1 [1] c) 0=some (.iptr 1 [[V.int .u32 1]] 0 0):=rfl
  by_cases h:i=0
  ·subst h
   obtain rfl:j=31:=by omega
   rw [if_pos rfl,if_pos rfl]
   have z1:binV .quo (.int .i64 0) (.int .i64 32)=some (.int .i64 0):=rfl
   have z2:binV .rem (.int .i64 0) (.int .i64 32)=some (.int .i64 0):=rfl
   have z3:binV .shr (.int .u32 1) (.int .u64 0)=some (.int .u32 1):=rfl
   have z4:binV .rem (.int .u32 1) (.int .u32 2)=some (.int .u32 1):=rfl
   have z5:binV .shl (.int .u32 1) (.int .u64 0)=some (.int .u32 1):=rfl
   have z0:IntKind.u64.wrap 0=0:=rfl
   have z6:IntKind.i64.wrap (0 - 1)=-1:=rfl
   refine Wf1 (Q5 z0 z1 z2 z3 (Q4 z4 z5 z6 h7)) (kp 31) ?_
   refine opsP_eat [some 0,none] [1] (vs':=[tl nrow 1 [] (some 0),tl nrow 1 [1] (some 1)]) (H1:=[some (.arr 1 [[V.int .u32 0]]),none]) rfl rfl rfl rfl kq ?_
   refine Wf2 (Q5 z0 z1 z2 z3 (Q4 z4 z5 z6 h7)) kl' km ?_
   exact qR_s [some 0] [] rfl rfl rfl trivial
  ·have h6:(1 / 2 ^ i:Nat)=0:=Nat.div_eq_of_lt (Nat.one_lt_two_pow h)
   rw [h6] at h5
   rw [if_neg (show ¬j+1=32 by omega),if_neg (show ¬j+1=32 by omega),show min (j+1) 1=1 by omega]
   refine Wf2 (Q5 (show (0:Int)≤i by omega) h1 h2 h3 (Q4 h4 h5 h7 (show binV BinOp.rem (V.int IntKind.u32 0) (V.int IntKind.u32 2)=some (V.int .u32 0) from rfl))) (kp j) kl ?_
   exact qR_n rfl rfl trivial
 ·intro _
  rw [if_pos rfl,if_pos rfl]
  refine Wf0 (show ¬(0:Int)≤31 - ((32:Nat):Int) by decide) ?_
  refine opsP_eat [none] [0] rfl rfl rfl rfl kt ?_
  refine Wn0 ?_
  exact FnQ.ret rfl rfl
theorem r4low1_v {c c':Option Nat}:VFn L 167 [.bool false,tl nrow 1 [1] c,tl nrow 1 [1] c'] (frV oneFr 1 none 1 none):=by
 have l1:limOk [1]:=by intro x hx;simp at hx;subst hx;decide
 have s1:shortN [1]:=by simp [shortN]
 have kg:=r3gcd_a hL (s:=1) (t:=1) (a:=[1]) (b:=[1]) (c:=c) (d:=c') (.inl rfl) (.inl rfl) l1 l1 s1 s1 (by simp) (by simp)
 rw [show Nat.gcd (valN [1]) (valN [1])=1 from rfl,dig_one] at kg
 unfold frV oneFr
 refine VFn.start (F:=T167.1) (by rw [hL];rfl) rfl rfl rfl ?_
 refine Wn0 ?_
 refine opsP_frm [] rfl rfl rfl rfl rfl kg ?_
 rintro r h' ⟨⟨g,⟨s,d,hs,rfl⟩,rfl⟩,rfl⟩
 obtain rfl:s=1:=hs.elim id (fun h=>by cases h)
 have k1:=r3div1_v hL (c:=c) (c':=d)
 have k2:=r3div1_v hL (c:=c') (c':=d)
 change opsP L _ _ (Env.put _ _ (V.tup [tl nrow 1 [1] d,.int .i64 0])) [some (Blk.arr 3 [[V.bool false,V.lst 0 [] (some 0),V.lst 0 [] (some 0)]])]
 refine Wn2 k1 k2 ?_
 exact FnQ.ret rfl rfl
theorem one04_v:VFn L 73 [.int .i64 1] (frV oneFr 1 none 1 none):=by
 have k1:=far1_v hL
 have k2:=r3of1_v hL
 have k3:=r4low1_v hL (c:=none) (c':=none)
 have ko:VFn L 136 [.int .i64 1,.int .i64 1] (.tup [frV oneFr 1 none 1 none,.int .i64 0]):=by
  unfold frV oneFr at *
  refine VFn.start (F:=T136.1) (by rw [hL];rfl) rfl rfl rfl ?_
  refine Wn3 k1 k2 k3 ?_
  exact FnQ.ret rfl rfl
 unfold frV oneFr at *
 refine VFn.start (F:=T73.1) (by rw [hL];rfl) rfl rfl rfl ?_
 refine Wn1 ko ?_
 exact FnQ.ret rfl rfl
theorem part43_v {x:Fr} {s t:Nat} {c d:Option Nat} (hs:s=1∨x.num=[]) (ht:t=1∨x.den=[]) (ln:x.num.length < 4611686018427387904) (lm:x.den.length < 4611686018427387904) (kn:limOk x.num) (kd:limOk x.den):VFn L 71 [frV x s c t d] (.bool (partF x)):=by
 have kc:=r4check_v hL (c:=c) (d:=d) hs ht ln lm kn kd
 unfold partF
 by_cases h1:okFr x
 ·rw [if_pos h1] at kc
  rw [decide_eq_true h1,Bool.true_and]
  obtain ⟨neg,num,den⟩:=x
  unfold frV at *
  simp only at *
  cases neg with
  | true=>
   refine VFn.start (F:=T71.1) (by rw [hL];rfl) rfl rfl rfl ?_
   refine Wn1 kc ?_
   exact FnQ.ret rfl rfl
  | false=>
   rw [Bool.not_false,Bool.true_and]
   by_cases h2:num.length≤8
   ·rw [show decide (num.length≤8∧den.length≤8)=decide ((den.length:Int)≤8) from decide_eq_decide.2 (by omega)]
    refine VFn.start (F:=T71.1) (by rw [hL];rfl) rfl rfl rfl ?_
    refine Wf1 (show (num.length:Int)≤8 by omega) kc ?_
    exact FnQ.ret rfl rfl
   ·rw [decide_eq_false (fun h=>h2 h.1)]
    refine VFn.start (F:=T71.1) (by rw [hL];rfl) rfl rfl rfl ?_
    refine Wf1 (show ¬(num.length:Int)≤8 by omega) kc ?_
    exact FnQ.ret rfl rfl
 ·rw [if_neg h1] at kc
  rw [decide_eq_false h1,Bool.false_and]
  obtain ⟨neg,num,den⟩:=x
  unfold frV at *
  simp only at *
  refine VFn.start (F:=T71.1) (by rw [hL];rfl) rfl rfl rfl ?_
  refine Wn1 kc ?_
  exact FnQ.ret rfl rfl
end Go.Proofs.YtigdhgbkgfagiaaGreat
namespace Go.Proofs.YtigdhgbkgfagiaaGreat
theorem may_check {c:Ct}:mayB c=decide (checkC c=0):=by
 rw [may_eq]
 unfold checkC
 by_cases h:10 < c.cands.length
 ·rw [if_pos h,decide_eq_false (show ¬c.cands.length≤10 by omega)];rfl
 ·rw [if_neg h,decide_eq_true (show c.cands.length≤10 by omega),Bool.true_and]
  cases okCt c <;> rfl
theorem pol_eq {t:Tm}:okPolR t.lo t.hi t.skips=decide (okPol t):=by
 have key:okPolR t.lo t.hi t.skips=true↔okPol t:=by
  unfold okPol okPolR
  simp only [Bool.and_eq_true,decide_eq_true_eq]
  constructor <;> (rintro ⟨h1,h2,h3,h4,h5⟩;refine ⟨?_,?_,?_,?_,?_⟩ <;> omega)
 by_cases h:okPol t
 ·rw [decide_eq_true h];exact key.2 h
 ·rw [decide_eq_false h];exact Bool.eq_false_iff.2 fun e=>h (key.1 e)
theorem any_odd_at {l:List Int} {x:Int} (hm:x∈l) (h:x < 1∨1024 < x):l.any oddR=true:=List.any_eq_true.2 ⟨x,hm,decide_eq_true h⟩
variable {L:Lib} (hL:L.T=tab.get)
include hL
theorem mayT_v {t:Tm} (ht:okTm t) (hnm:t.name.length < 4611686018427387904) (hcs:∀x∈t.cands.l,x.length < 4611686018427387904):VFn L 27 [.agg (tmC t)] (.bool (okTerms t)):=by
 have hd1:t.due.num.length < 4611686018427387904:=by have:=ht.dnum;show t.dnum.l.length < _;omega
 have hd2:t.due.den.length < 4611686018427387904:=by have:=ht.dden;show t.dden.l.length < _;omega
 have hl1:t.lim.num.length < 4611686018427387904:=by have:=ht.lnum;show t.lnum.l.length < _;omega
 have hl2:t.lim.den.length < 4611686018427387904:=by have:=ht.lden;show t.lden.l.length < _;omega
 have hrl:t.rounds.l.length < 4611686018427387904:=by have:=ht.rounds;omega
 obtain ⟨s0,c0,e0,z0⟩:=nlv_tl (f:=srow) (n:=1) (o:=t.cands)
 obtain ⟨s1,c1,e1,z1⟩:=nlv_tl (f:=nrow) (n:=1) (o:=t.dnum)
 obtain ⟨s2,c2,e2,z2⟩:=nlv_tl (f:=nrow) (n:=1) (o:=t.dden)
 obtain ⟨s3,c3,e3,z3⟩:=nlv_tl (f:=nrow) (n:=1) (o:=t.lnum)
 obtain ⟨s4,c4,e4,z4⟩:=nlv_tl (f:=nrow) (n:=1) (o:=t.lden)
 obtain ⟨s5,c5,e5,z5⟩:=nlv_tl (f:=mrow) (n:=1) (o:=t.rounds)
 have k1:=may_v hL (c:=t.ct) (s:=s0) (k:=c0) z0 hnm hcs
 rw [may_check] at k1
 have k0:=polR_v hL (lo:=t.lo) (hi:=t.hi) (skips:=t.skips)
 rw [pol_eq] at k0
 have k2:=part43_v hL (x:=t.due) (c:=c1) (d:=c2) z1 z2 hd1 hd2 ht.dl.1 ht.dl.2
 have k3:=part43_v hL (x:=t.lim) (c:=c3) (d:=c4) z3 z4 hl1 hl2 ht.ll.1 ht.ll.2
 have k4:=one04_v hL
 have k5:partF t.lim=true→VFn L 72 [frV t.lim s3 c3 s4 c4,frV oneFr 1 none 1 none] (.tup [.int .i64 (cmpFr t.lim oneFr),.int .i64 0]):=fun hp=>by
  unfold partF at hp
  simp only [Bool.and_eq_true,decide_eq_true_eq] at hp
  obtain ⟨p1,p2,p3,p4⟩:=hp
  have q:∀l:List Nat,limOk l→l.length≤8→valN l*valN [1] < W32 ^ 96:=fun l h1 h2=>by
   rw [show valN [1]=1 from rfl,Nat.mul_one]
   exact Nat.lt_of_lt_of_le (valN_lt h1) (Nat.pow_le_pow_right W32_pos (by omega))
  have q':∀l:List Nat,limOk l→l.length≤8→valN [1]*valN l < W32 ^ 96:=fun l h1 h2=>by
   rw [Nat.mul_comm];exact q l h1 h2
  exact r4cmp_v hL z3 z4 (.inl rfl) (.inl rfl) ht.ll ⟨by intro x hx;simp [oneFr] at hx;subst hx;decide,by intro x hx;simp [oneFr] at hx;subst hx;decide⟩ p1 okFr_one (q _ ht.ll.1 p3) (q' _ ht.ll.2 p4)
 unfold tmC
 rw [e0,e1,e2,e3,e4,e5]
 unfold okTerms
 unfold frV at k2 k3 k4 k5
 have hlen:(t.lnum.l.length:Int)=0↔t.lim.num=[]:=by
  show _↔t.lnum.l=[]
  rw [←List.length_eq_zero_iff];omega
 simp only [Tm.ct,Tm.due,Tm.lim] at k1 k2 k3 k5
 change VFn L _ [.agg [.bool t.dneg,tl nrow s1 t.dnum.l c1,tl nrow s2 t.dden.l c2]] (.bool (partF t.due)) at k2
 change VFn L _ [.agg [.bool t.lneg,tl nrow s3 t.lnum.l c3,tl nrow s4 t.lden.l c4]] (.bool (partF t.lim)) at k3
 change VFn L _ _ (.bool (decide (checkC t.ct=0))) at k1
 change partF t.lim=true→VFn L _ _ (.tup [.int .i64 (cmpFr t.lim oneFr),_]) at k5
 change _↔t.lim.num=[] at hlen
 generalize decide (checkC t.ct=0)=q1 at *
 generalize decide (okPol t)=q0 at *
 generalize partF t.due=q2 at *
 generalize partF t.lim=q3 at *
 generalize cmpFr t.lim oneFr=q4 at *
 generalize t.lim.num=q6 at *
 clear ht hnm hcs hd1 hd2 hl1 hl2 e0 e1 e2 e3 e4 e5
 obtain ⟨name,cands,seats,rule,lo,hi,skips,dneg,dnum,dden,lneg,lnum,lden,rounds⟩:=t
 simp only at *
 cases q1 with
 | false=>
  refine VFn.start (F:=T27.1) (by rw [hL];rfl) rfl rfl rfl ?_
  refine Wn1 k1 ?_
  exact FnQ.ret rfl rfl
 | true=>
 cases q0 with
 | false=>
  refine VFn.start (F:=T27.1) (by rw [hL];rfl) rfl rfl rfl ?_
  refine Wn2 k1 k0 ?_
  exact FnQ.ret rfl rfl
 | true=>
 cases q2 with
 | false=>
  refine VFn.start (F:=T27.1) (by rw [hL];rfl) rfl rfl rfl ?_
  refine Wn3 k1 k0 k2 ?_
  exact FnQ.ret rfl rfl
 | true=>
 cases q3 with
 | false=>
  refine VFn.start (F:=T27.1) (by rw [hL];rfl) rfl rfl rfl ?_
  refine Wn4 k1 k0 k2 k3 ?_
  exact FnQ.ret rfl rfl
 | true=>
 have k5:=k5 rfl
 by_cases n7:q6=[]
 ·rw [decide_eq_true n7]
  have m7:=hlen.2 n7
  refine VFn.start (F:=T27.1) (by rw [hL];rfl) rfl rfl rfl ?_
  refine Wf4 m7 k1 k0 k2 k3 ?_
  exact FnQ.ret rfl rfl
 rw [decide_eq_false n7]
 have m7:¬(lnum.l.length:Int)=0:=fun h=>n7 (hlen.1 h)
 by_cases n8:q4 < 0
 ·rw [decide_eq_true n8]
  have m8:¬(0:Int)≤q4:=by omega
  by_cases n9:1≤rounds.l.length
  ·by_cases n10:rounds.l.length≤8
   ·rw [decide_eq_true (⟨n9,n10⟩:1≤rounds.l.length∧rounds.l.length≤8)]
    refine VFn.start (F:=T27.1) (by rw [hL];rfl) rfl rfl rfl ?_
    refine Wf6 (Q4 m7 m8 (show ¬(rounds.l.length:Int) < 1 by omega) (show ¬(8:Int) < rounds.l.length by omega)) k1 k0 k2 k3 k4 k5 ?_
    refine wCnt rfl 5 rounds.l.length (fun _=>[]) (fun j=>(rounds.l.take j).any oddR=false) rfl (by simp) ?_ ?_
    ·intro j hj hI
     obtain ⟨x,hx,hm⟩:=get_of hj
     obtain rfl:=size_of z5 hj
     have hw:=wrap_succ (show j < 9223372036854775807 by omega)
     by_cases h3:x < 1
     ·rw [any_odd_at hm (.inl h3)]
      refine Wf0 (Q5 hj (iT hj) hx @mrow_eq h3) ?_
      exact FnQ.ret rfl rfl
     ·by_cases h4:1024 < x
      ·rw [any_odd_at hm (.inr h4)]
       refine Wf0 (Q5 hj (iT hj) hx @mrow_eq (Q2 h3 h4)) ?_
       exact FnQ.ret rfl rfl
      ·refine Wf0 (Q5 hj (iT hj) hx @mrow_eq (Q3 h3 h4 hw)) ?_
       refine qR_n rfl rfl ?_
       rw [take_snoc hx,List.any_append,hI]
       simp [oddR,h3,h4]
    ·intro hI
     rw [List.take_of_length_le (Nat.le_refl _)] at hI
     rw [hI]
     refine Wn0 ?_
     exact FnQ.ret rfl rfl
   ·rw [decide_eq_false (fun h=>n10 h.2)]
    refine VFn.start (F:=T27.1) (by rw [hL];rfl) rfl rfl rfl ?_
    refine Wf6 (Q4 m7 m8 (show ¬(rounds.l.length:Int) < 1 by omega) (show (8:Int) < rounds.l.length by omega)) k1 k0 k2 k3 k4 k5 ?_
    exact FnQ.ret rfl rfl
  ·rw [decide_eq_false (fun h=>n9 h.1)]
   refine VFn.start (F:=T27.1) (by rw [hL];rfl) rfl rfl rfl ?_
   refine Wf6 (Q3 m7 m8 (show (rounds.l.length:Int) < 1 by omega)) k1 k0 k2 k3 k4 k5 ?_
   exact FnQ.ret rfl rfl
 ·rw [decide_eq_false n8]
  refine VFn.start (F:=T27.1) (by rw [hL];rfl) rfl rfl rfl ?_
  refine Wf6 (Q2 m7 (show (0:Int)≤q4 by omega)) k1 k0 k2 k3 k4 k5 ?_
  exact FnQ.ret rfl rfl
end Go.Proofs.YtigdhgbkgfagiaaGreat
