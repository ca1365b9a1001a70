/- Sheets, by the reference: columns, marks, ranks, walked. · Sheets, by the reference: scores, decisions, boxes marked and in doubt, walked. · Sheets, by the reference: which boxes are marked, walked. · Contests, by the reference, walked. · Contests and sheets, by the reference: May, Check, walked. -/
import Derived.Test.YtigdhgbkgfagiaaGreatZM1
import Derived.Test.YtigdhgbkgfagiaaGreatZM2
import Derived.Test.YtigdhgbkgfagiaaGreatZPC
set_option maxRecDepth 100000
set_option maxHeartbeats 4000000
set_option linter.unusedVariables false
set_option linter.unusedSimpArgs false
namespace Go.Proofs.YtigdhgbkgfagiaaGreat
theorem accFrz {α:Type} {f:α→List V} {n:Nat} (hf:∀x,(f x).all V.closed=true) (hn:0 < n) {H:Heap} {fz:List Nat} {a:Nat} {l:List α} (ha:fz.contains a=true) (h:H.get a=accB f n l):V.ren (sgOf H [] fz) (accV a n l)=lsV f n l:=by
 by_cases hl:l=[]
 ·subst hl;rfl
 ·rw [accV_cons hl,show lsV f n l=tl f n l none from if_neg hl]
  exact frz_refS' hf hn rfl ha (by rw [h,accB_cons hl])
structure RrI (M:List Bool) (n:Nat) (skips:Int) (res:List Int×Bool) (s:Nat×Nat×List Int):Prop where
 j:s.1≤n
 sk:s.2.1≤s.1
 sp:(s.2.1:Int) < skips∨skips=0
 ms:s.2.2.length≤s.1
 res:rkL M n n skips (n - s.1) s.1 s.2.1 s.2.2=res
variable {L:Lib} (hL:L.T=tab.get)
include hL
theorem columnR_v {M:List Bool} {c:Option Nat} {n w j:Nat} (hn:n≤1000) (hw:w≤1000) (hj:j < w) (hM:M.length=n*w):VFn L 205 [tl brow 1 M c,.int .i64 n,.int .i64 w,.int .i64 j] (lsV mrow 1 (colL M w j n)):=by
 refine VFn.start (F:=T205.1) (by rw [hL];rfl) rfl rfl closed_lsV ?_
 refine Wn0 ?_
 refine wPad [none] (H1:=[none]) rfl rfl rfl ?_
 refine wCntH rfl 10 n (fun i=>[(9,accV 0 1 (colL M w j i))]) (fun i=>[accB mrow 1 (colL M w j i)]) (fun _=>True) rfl rfl trivial ?_ ?_
 ·intro i hi _
  have hx:i*w+j < M.length:=by
   rw [hM]
   have:(i+1)*w≤n*w:=Nat.mul_le_mul_right _ hi
   rw [Nat.succ_mul] at this;omega
  have hxb:i*w+j < 1000000:=by
   rw [hM] at hx
   exact Nat.lt_of_lt_of_le hx (Nat.mul_le_mul hn hw)
  have w1:IntKind.i64.wrap ((i:Int)*(w:Int))=((i*w:Nat):Int):=by rw [←Int.natCast_mul];exact wrap_nat (by omega)
  have w2:IntKind.i64.wrap (((i*w:Nat):Int)+(j:Int))=((i*w+j:Nat):Int):=by rw [←Int.natCast_add];exact wrap_nat (by omega)
  have hw3:=wrap_succ (show i < 9223372036854775807 by omega)
  obtain ⟨b,hb⟩:∃b,M[i*w+j]?=some b:=⟨_,List.getElem?_eq_getElem hx⟩
  have hcl:colL M w j (i+1)=colL M w j i++(if b then [(i:Int)] else []):=by
   show colL M w j i++_=_
   rw [hb];rfl
  have hlen:=colL_len (M:=M) (w:=w) (col:=j) i
  rw [hcl]
  generalize colL M w j i=r at *
  generalize hX:i*w+j=X at *
  generalize hY:i*w=Y at *
  cases b with
  | false=>
   rw [if_neg (by simp),List.append_nil]
   refine Wf0 (Q5 (show (i:Int) < n by omega) w1 w2 (iT hx) (Q3 hb @brow_eq hw3)) ?_
   exact qR_n rfl rfl trivial
  | true=>
   rw [if_pos rfl,accV_snoc,accB_snoc]
   by_cases hr:r=[]
   ·subst hr
    rw [accV_nil,accB_nil]
    refine Wf0 (Q5 (show (i:Int) < n by omega) w1 w2 (iT hx) (Q3 hb @brow_eq hw3)) ?_
    exact qR_s [some 2] [] rfl rfl (sh_c rfl sh_n) trivial
   ·rw [accV_cons hr,accB_cons hr]
    have hroom:(r.length+1)*8≤140737488355328:=by omega
    refine Xf0 (Q5 (show (i:Int) < n by omega) w1 w2 (iT hx) (Q4 hb @brow_eq hw3 hroom)) ?_
    exact qR_s [some 2] [] rfl rfl (sh_c (sh_b closed_mrow rfl) sh_n) trivial
 ·intro _
  refine Wn0 ?_
  exact FnQ.frz [0] rfl (accFrz closed_mrow (by decide) rfl rfl)
theorem inR_v {s:Nat} {l:List Int} {c:Option Nat} {y:Int} (hs:s=1∨l=[]) (hl:l.length < 4611686018427387904):VFn L 206 [tl mrow s l c,.int .i64 y] (.bool (decide (y∈l))):=by
 refine VFn.start (F:=T206.1) (by rw [hL];rfl) rfl rfl rfl ?_
 refine Wn0 ?_
 refine wCnt rfl 5 l.length (fun _=>[]) (fun j=>¬y∈l.take j) rfl (by simp) ?_ ?_
 ·intro j hj hI
  obtain ⟨x,hx,hm⟩:=get_of hj
  obtain rfl:=size_of hs hj
  have hw:=wrap_succ (show j < 9223372036854775807 by omega)
  by_cases h:x=y
  ·subst h
   rw [decide_eq_true hm]
   refine Xf0 (Q4 hj (iT hj) hx @mrow_eq) ?_
   exact FnQ.ret rfl rfl
  ·refine Wf0 (Q5 hj (iT hj) hx @mrow_eq (Q2 h hw)) ?_
   refine qR_n rfl rfl ?_
   rw [take_snoc hx]
   simp only [List.mem_append,List.mem_singleton,not_or]
   exact ⟨hI,fun e=>h e.symm⟩
 ·intro hI
  rw [List.take_of_length_le (Nat.le_refl _)] at hI
  rw [decide_eq_false hI]
  refine Wn0 ?_
  exact FnQ.ret rfl rfl
theorem marksR_v {M:List Bool} {c:Option Nat} {most:Nat} (hM:M.length≤1000):VFn L 181 [tl brow 1 M c,.int .i64 most] (if most < (colL M 1 0 M.length).length then .tup [nilV,.int .i64 1] else .tup [lsV mrow 1 (colL M 1 0 M.length),.int .i64 0]):=by
 have kc:=columnR_v hL (c:=c) (n:=M.length) (w:=1) (j:=0) (M:=M) hM (by omega) (by omega) (by omega)
 refine VFn.start (F:=T181.1) (by rw [hL];rfl) rfl rfl (by split <;> simp [V.closed,V.closeds,closed_lsV,nilV]) ?_
 have hl:lenQ (lsV mrow 1 (colL M 1 0 M.length))=some (.int .i64 (colL M 1 0 M.length).length):=lenQ_colV _
 have hc:(lsV mrow 1 (colL M 1 0 M.length)).closed=true:=closed_lsV
 generalize hr:colL M 1 0 M.length=r at *
 by_cases h:most < r.length
 ·rw [if_pos h]
  refine Wf1 (Q2 hl (show (most:Int) < r.length by omega)) kc ?_
  exact FnQ.ret rfl rfl
 ·rw [if_neg h]
  refine Wf1 (Q2 hl (show ¬(most:Int) < r.length by omega)) kc ?_
  exact FnQ.ret rfl (by simp [V.closed,V.closeds,hc])
theorem ranksR_v {M:List Bool} {c:Option Nat} {n:Nat} {skips:Int} (hn:n≤1000) (hM:M.length=n*n) (hs:0≤skips) :
    VFn L 180 [tl brow 1 M c,.int .i64 n,.int .i64 skips] (.tup [lsV mrow 1 (rkL M n n skips n 0 0 []).1,.int .i64 (if (rkL M n n skips n 0 0 []).2 then 1 else 0)]):=by
 generalize hres:rkL M n n skips n 0 0 []=res
 refine VFn.start (F:=T180.1) (by rw [hL];rfl) rfl rfl (by simp [V.closed,V.closeds,closed_lsV]) ?_
 refine Wn0 ?_
 refine wPad [none] (H1:=[none]) rfl rfl rfl ?_
 refine wWhile rfl (fun s:Nat×Nat×List Int=>[(0,tl brow 1 M c),(1,V.int .i64 n),(2,V.int .i64 skips),(8,accV 0 1 s.2.2),(9,V.int .i64 s.2.1),(10,V.int .i64 s.1)]) (fun s=>[accB mrow 1 s.2.2]) (fun s=>n - s.1) (RrI M n skips res) (0,0,[]) rfl rfl ⟨Nat.zero_le _,Nat.le_refl _,by simp only;omega,Nat.le_refl _,hres⟩ ?_
 rintro ⟨j,sk,ms⟩ ⟨i1,i2,i3,i4,i5⟩
 simp only at i1 i2 i3 i4 i5
 have hfin:∀b:Bool,res=(ms,b)→∀H:Heap,H.get 0=accB mrow 1 ms→V.ren (sgOf H [] [0]) (.tup [accV 0 1 ms,.int .i64 (if b then 1 else 0)])=.tup [lsV mrow 1 res.1,.int .i64 (if res.2 then 1 else 0)]:=fun b hb H h=>by
  rw [hb]
  exact congrArg (fun v=>V.tup [v,.int .i64 (if b then 1 else 0)]) (accFrz closed_mrow (by decide) rfl h)
 by_cases hj:j < n
 ·have kc:=columnR_v hL (c:=c) (n:=n) (w:=n) (j:=j) (M:=M) hn hn hj hM
  have hs:rkL M n n skips (n - j) j sk ms=match colL M n j n with
      | []=>if ((sk+1:Nat):Int)=skips then (ms,false) else rkL M n n skips (n - (j+1)) (j+1) (sk+1) ms
      | [x]=>rkL M n n skips (n - (j+1)) (j+1) 0 (if x∈ms then ms else ms++[x])
      | _=>(ms,true):=by
   rw [show n - j=(n - (j+1))+1 by omega]
   conv=>lhs;unfold rkL
   cases colL M n j n with
   | nil=>rfl
   | cons x r=>cases r <;> rfl
  rw [hs] at i5
  have hcl:=colL_len (M:=M) (w:=n) (col:=j) n
  have hll:lenQ (lsV mrow 1 (colL M n j n))=some (.int .i64 (colL M n j n).length):=lenQ_colV _
  have hwr:=wrap_succ (show sk < 9223372036854775807 by omega)
  have hwj:=wrap_succ (show j < 9223372036854775807 by omega)
  generalize colL M n j n=l at *
  match l,i5,hcl,kc,hll with
  | [],i5,hcl,kc,hll=>
   rw [show lsV mrow 1 ([]:List Int)=.lst 0 [] (some 0) from rfl] at kc
   dsimp only at i5
   by_cases hk:(sk:Int)+1=skips
   ·rw [if_pos (by omega)] at i5
    have h1:(0:Int) < skips:=by omega
    have h2:skips≤(sk:Int)+1:=by omega
    refine Wf1 (Q4 (show (j:Int) < n by omega) hwr h1 h2) kc ?_
    exact FnQ.frz [0] rfl (hfin false i5.symm _ rfl)
   ·rw [if_neg (by omega)] at i5
    by_cases h1:0 < skips
    ·have h2:¬skips≤(sk:Int)+1:=by omega
     refine Wf1 (Q5 (show (j:Int) < n by omega) hwr hwj h1 h2) kc ?_
     exact qW_n (j+1,sk+1,ms) rfl rfl ⟨by simp only;omega,by simp only;omega,by simp only;omega,by simp only;omega,by simp only;omega,i5⟩
    ·refine Wf1 (Q4 (show (j:Int) < n by omega) hwr hwj h1) kc ?_
     exact qW_n (j+1,sk+1,ms) rfl rfl ⟨by simp only;omega,by simp only;omega,by simp only;omega,by simp only;omega,by simp only;omega,i5⟩
  | [x],i5,hcl,kc,hll=>
   rw [show lsV mrow 1 [x]=tl mrow 1 [x] none from rfl] at kc
   have hroom:(ms.length+1)*8≤140737488355328:=by omega
   dsimp only at i5
   obtain ⟨s1,c1,e1,f1⟩:=lsV_tl mrow 1 ms
   have ki:=inR_v hL (c:=c1) (y:=x) f1 (by omega)
   rw [←e1] at ki
   have hi0:iaQ 1 (tl mrow 1 [x] none) 0=some (.iptr 1 [[.int .i64 x]] 0 0):=rfl
   refine Xf1 (Q2 (show (j:Int) < n by omega) hi0) kc ?_
   refine opsP_lendN (vs:=[accV 0 1 ms,V.int .i64 x]) (vs':=[lsV mrow 1 ms,V.int .i64 x]) [0] rfl ?_ ki rfl ?_
   ·exact congrArg (fun v=>[v,V.int .i64 x]) (accFrz (f:=mrow) (n:=1) closed_mrow (by decide) rfl rfl)
   by_cases hx:x∈ms
   ·rw [if_pos hx] at i5
    refine Xf0 (Q2 hx hwj) ?_
    exact qW_n (j+1,0,ms) rfl rfl ⟨by simp only;omega,by simp only;omega,by simp only;omega,by simp only;omega,by simp only;omega,i5⟩
   ·rw [if_neg hx] at i5
    by_cases hms:ms=[]
    ·subst hms
     rw [accV_nil,accB_nil]
     refine Xf0 (Q3 hx hwj hi0) ?_
     exact qW_s (j+1,0,[x]) [some 2] [] rfl rfl (sh_c rfl sh_n) ⟨by simp only;omega,by simp only;omega,by simp only;omega,by simp only;omega,by simp,i5⟩
    ·rw [accV_cons hms,accB_cons hms]
     refine Xf0 (Q4 hx hwj hroom hi0) ?_
     refine qW_s (j+1,0,ms++[x]) [some 2] [] rfl ?_ ?_ ⟨by simp only;omega,by simp only;omega,by simp only;omega,by simp only;omega,by simp only [List.length_append,List.length_singleton];omega,i5⟩
     ·rw [accV_snoc];rfl
     ·rw [accB_snoc];exact sh_c (sh_b closed_mrow rfl) sh_n
  | x::y::l,i5,hcl,kc,hll=>
   dsimp only at i5
   rw [show lsV mrow 1 (x::y::l)=tl mrow 1 (x::y::l) none from rfl] at kc
   refine Xf1 (Q2 (show (j:Int) < n by omega) (show (1:Int) < (l.length:Int)+1+1 by omega)) kc ?_
   exact FnQ.frz [0] rfl (hfin true i5.symm _ rfl)
 ·obtain rfl:j=n:=by omega
  rw [Nat.sub_self] at i5
  unfold rkL at i5
  refine Wf0 (show ¬(j:Int) < j by omega) ?_
  exact FnQ.frz [0] rfl (hfin false i5.symm _ rfl)
end Go.Proofs.YtigdhgbkgfagiaaGreat
namespace Go.Proofs.YtigdhgbkgfagiaaGreat
def rowS (M:List Bool) (i:Nat):Nat→Nat×Nat
 | 0=>(0,0)
 | k+1=>if M[i*11+k]?.getD false then (k,(rowS M i k).2+1) else rowS M i k
theorem rowS_le {M:List Bool} {i:Nat}:∀k,(rowS M i k).2≤k
 | 0=>Nat.le_refl _
 | k+1=>by
  have:=rowS_le (M:=M) (i:=i) k
  unfold rowS
  split
  ·simp only;omega
  ·omega
def scR (M:List Bool):Nat→List Int×Nat
 | 0=>([],0)
 | j+1=>if 1 < (rowS M j 11).2 then ((scR M j).1++[0],(scR M j).2+1) else ((scR M j).1++[((rowS M j 11).1:Int)],(scR M j).2)
theorem scR_len {M:List Bool}:∀j,(scR M j).1.length=j∧(scR M j).2≤j
 | 0=>⟨rfl,Nat.le_refl _⟩
 | j+1=>by
  obtain ⟨h1,h2⟩:=scR_len (M:=M) j
  unfold scR
  split
  ·exact ⟨by simp [h1],by simp only;omega⟩
  ·exact ⟨by simp [h1],by simp only;omega⟩
def decR (l:List (Int×Bool)) (b:Int):Bool×Bool:=match l.find? (fun d=>decide (d.1=b)) with|some d=>(d.2,true)|none=>(false,false)
def doubtR (lo hi b:Int):Bool:=decide (lo≤b)&&decide (b < hi)
def mkR (lo hi:Int) (B:List Int) (ds:List (Int×Bool)):Nat→List Bool×List Int
 | 0=>([],[])
 | j+1=>match B[j]? with
  | none=>mkR lo hi B ds j
  | some b=>((mkR lo hi B ds j).1++[if doubtR lo hi b then (decR ds j).1 else decide (hi≤b)],(mkR lo hi B ds j).2++(if doubtR lo hi b&&!(decR ds j).2 then [(j:Int)] else []))
theorem mkR_len {lo hi:Int} {B:List Int} {ds:List (Int×Bool)}:∀j,(mkR lo hi B ds j).1.length≤j∧(mkR lo hi B ds j).2.length≤j
 | 0=>⟨Nat.le_refl _,Nat.le_refl _⟩
 | j+1=>by
  obtain ⟨h1,h2⟩:=mkR_len (lo:=lo) (hi:=hi) (B:=B) (ds:=ds) j
  unfold mkR
  split
  ·exact ⟨by omega,by omega⟩
  ·refine ⟨by simp;omega,?_⟩
   simp only [List.length_append]
   split <;> simp <;> omega
def okPolR (lo hi skips:Int):Bool:=decide (1≤lo)&&(decide (lo≤hi)&&(decide (hi≤100)&&(decide (0≤skips)&&decide (skips≤10))))
variable {L:Lib} (hL:L.T=tab.get)
include hL
theorem polR_v {lo hi skips:Int}:VFn L 70 [.agg [.int .u8 lo,.int .u8 hi,.int .i64 skips]] (.bool (okPolR lo hi skips)):=by
 refine VFn.start (F:=T70.1) (by rw [hL];rfl) rfl rfl rfl ?_
 unfold okPolR
 by_cases h1:1≤lo
 ·rw [decide_eq_true h1,Bool.true_and]
  by_cases h2:lo≤hi
  ·rw [decide_eq_true h2,Bool.true_and]
   by_cases h3:hi≤100
   ·rw [decide_eq_true h3,Bool.true_and]
    by_cases h4:0≤skips
    ·rw [decide_eq_true h4,Bool.true_and]
     refine Wf0 (Q4 h1 h2 h3 h4) ?_
     exact FnQ.ret rfl rfl
    ·rw [decide_eq_false h4,Bool.false_and]
     refine Wf0 (Q4 h1 h2 h3 h4) ?_
     exact FnQ.ret rfl rfl
   ·rw [decide_eq_false h3,Bool.false_and]
    refine Wf0 (Q3 h1 h2 h3) ?_
    exact FnQ.ret rfl rfl
  ·rw [decide_eq_false h2,Bool.false_and]
   refine Wf0 (Q2 h1 h2) ?_
   exact FnQ.ret rfl rfl
 ·rw [decide_eq_false h1,Bool.false_and]
  refine Wf0 h1 ?_
  exact FnQ.ret rfl rfl
theorem doubtR_v {lo hi skips b:Int}:VFn L 177 [.agg [.int .u8 lo,.int .u8 hi,.int .i64 skips],.int .u8 b] (.bool (doubtR lo hi b)):=by
 refine VFn.start (F:=T177.1) (by rw [hL];rfl) rfl rfl rfl ?_
 unfold doubtR
 by_cases h1:lo≤b
 ·rw [decide_eq_true h1,Bool.true_and]
  refine Wf0 h1 ?_
  exact FnQ.ret rfl rfl
 ·rw [decide_eq_false h1,Bool.false_and]
  refine Wf0 h1 ?_
  exact FnQ.ret rfl rfl
theorem decR_v {s:Nat} {l:List (Int×Bool)} {c:Option Nat} {b:Int} (hs:s=2∨l=[]) (hl:l.length < 4611686018427387904):VFn L 204 [tl drow s l c,.int .i64 b] (.tup [.bool (decR l b).1,.bool (decR l b).2]):=by
 refine VFn.start (F:=T204.1) (by rw [hL];rfl) rfl rfl rfl ?_
 refine Wn0 ?_
 refine wCnt rfl 6 l.length (fun _=>[]) (fun j=>decR l b=decR (l.drop j) b) rfl rfl ?_ ?_
 ·intro j hj hI
  obtain ⟨d,hx,hm⟩:=get_of hj
  obtain rfl:=size_of hs hj
  have hw:=wrap_succ (show j < 9223372036854775807 by omega)
  have hd:=drop_atG hx
  obtain ⟨x,y⟩:=d
  by_cases hp:x=b
  ·rw [show decR l b=(y,true) by rw [hI,hd];unfold decR;simp [hp]]
   refine Wf0 (Q5 hj (iT hj) hx @drow_eq (show decide (x=b)=true from decide_eq_true hp)) ?_
   exact FnQ.ret rfl rfl
  ·refine Wf0 (Q5 hj (iT hj) hx @drow_eq (Q2 hp hw)) ?_
   refine qR_n rfl rfl ?_
   rw [hI,hd]
   unfold decR
   simp [hp]
 ·intro hI
  rw [show decR l b=(false,false) by rw [hI,List.drop_eq_nil_of_le (Nat.le_refl _)];rfl]
  refine Wn0 ?_
  exact FnQ.ret rfl rfl
theorem scoresR_v {M:List Bool} {c:Option Nat} {n:Nat} (hn:n≤1000) (hM:M.length=n*11):VFn L 183 [tl brow 1 M c,.int .i64 n] (.tup [lsV mrow 1 (scR M n).1,.int .i64 (scR M n).2]):=by
 refine VFn.start (F:=T183.1) (by rw [hL];rfl) rfl rfl (by simp [V.closed,V.closeds,closed_lsV]) ?_
 refine Wn0 ?_
 refine wPad [none] (H1:=[none]) rfl rfl rfl ?_
 refine wCntH rfl 8 n (fun j=>[(6,accV 0 1 (scR M j).1),(7,V.int .i64 (scR M j).2)]) (fun j=>[accB mrow 1 (scR M j).1]) (fun _=>True) rfl rfl trivial ?_ ?_
 ·intro j hj _
  have hwj:=wrap_succ (show j < 9223372036854775807 by omega)
  obtain ⟨hl1,hl2⟩:=scR_len (M:=M) j
  have hstep:scR M (j+1)=if 1 < (rowS M j 11).2 then ((scR M j).1++[0],(scR M j).2+1) else ((scR M j).1++[((rowS M j 11).1:Int)],(scR M j).2):=rfl
  rw [hstep]
  generalize scR M j=S at *
  obtain ⟨S1,S2⟩:=S
  simp only at hl1 hl2
  refine Wf0 (show (j:Int) < n by omega) ?_
  refine wCnt rfl 11 11 (fun k=>[(9,V.int .i64 (rowS M j k).1),(10,V.int .i64 (rowS M j k).2)]) (fun _=>True) rfl trivial ?_ ?_
  ·intro k hk _
   have hx:j*11+k < M.length:=by rw [hM];omega
   have w1:IntKind.i64.wrap ((j:Int)*11)=((j*11:Nat):Int):=by rw [show (j:Int)*11=((j*11:Nat):Int) by push_cast;try rfl];exact wrap_nat (by omega)
   have w2:IntKind.i64.wrap (((j*11:Nat):Int)+(k:Int))=((j*11+k:Nat):Int):=by rw [←Int.natCast_add];exact wrap_nat (by omega)
   obtain ⟨b,hb⟩:∃b,M[j*11+k]?=some b:=⟨_,List.getElem?_eq_getElem hx⟩
   have hwk:=wrap_succ (show k < 9223372036854775807 by omega)
   have hrs:rowS M j (k+1)=if b then (k,(rowS M j k).2+1) else rowS M j k:=by
    show (if M[j*11+k]?.getD false then _ else _)=_
    rw [hb];rfl
   have hle:=rowS_le (M:=M) (i:=j) k
   rw [hrs]
   generalize rowS M j k=T at *
   obtain ⟨T1,T2⟩:=T
   simp only at hle
   have hwt:=wrap_succ (show T2 < 9223372036854775807 by omega)
   generalize hX:j*11+k=X at *
   generalize hY:j*11=Y at *
   cases b with
   | false=>
    rw [if_neg (by simp)]
    refine Wf0 (Q5 (show (k:Int) < 11 by omega) w1 w2 (iT hx) (Q3 hb @brow_eq hwk)) ?_
    exact qR_n rfl rfl trivial
   | true=>
    rw [if_pos rfl]
    refine Wf0 (Q5 (show (k:Int) < 11 by omega) w1 w2 (iT hx) (Q4 hb @brow_eq hwk hwt)) ?_
    exact qR_n rfl rfl trivial
  ·intro _
   have hle:=rowS_le (M:=M) (i:=j) 11
   generalize rowS M j 11=T at *
   obtain ⟨T1,T2⟩:=T
   simp only at hle
   have hroom:(S1.length+1)*8≤140737488355328:=by omega
   have hws:=wrap_succ (show S2 < 9223372036854775807 by omega)
   by_cases hm:1 < T2
   ·rw [if_pos hm,accV_snoc,accB_snoc]
    by_cases hr:S1=[]
    ·subst hr
     rw [accV_nil,accB_nil]
     refine Wf0 (Q3 hwj hws (show (1:Int) < T2 by omega)) ?_
     exact qR_s [some 2] [] rfl rfl (sh_c rfl sh_n) trivial
    ·rw [accV_cons hr,accB_cons hr]
     refine Xf0 (Q4 hwj hws (show (1:Int) < T2 by omega) hroom) ?_
     exact qR_s [some 2] [] rfl rfl (sh_c (sh_b closed_mrow rfl) sh_n) trivial
   ·rw [if_neg hm,accV_snoc,accB_snoc]
    by_cases hr:S1=[]
    ·subst hr
     rw [accV_nil,accB_nil]
     refine Wf0 (Q3 hwj hws (show ¬(1:Int) < T2 by omega)) ?_
     exact qR_s [some 2] [] rfl rfl (sh_c rfl sh_n) trivial
    ·rw [accV_cons hr,accB_cons hr]
     refine Xf0 (Q4 hwj hws (show ¬(1:Int) < T2 by omega) hroom) ?_
     exact qR_s [some 2] [] rfl rfl (sh_c (sh_b closed_mrow rfl) sh_n) trivial
 ·intro _
  refine Wn0 ?_
  exact FnQ.frz [0] rfl (congrArg (fun v=>V.tup [v,.int .i64 (scR M n).2]) (accFrz closed_mrow (by decide) rfl rfl))
end Go.Proofs.YtigdhgbkgfagiaaGreat
namespace Go.Proofs.YtigdhgbkgfagiaaGreat
theorem accV_ren {α:Type} {σ:Nat→Sg} {a b n:Nat} {l:List α} (h:σ a=.to b):V.ren σ (accV a n l)=accV b n l:=by
 unfold accV
 split
 ·rfl
 ·simp [V.ren,h]
theorem accB_rnm {σ:Nat→Sg} {l:List Int}:(accB mrow 1 l).map (Blk.ren σ)=accB mrow 1 l:=by
 unfold accB
 split
 ·rfl
 ·rw [Option.map_some,ren_tl closed_mrow]
variable {L:Lib} (hL:L.T=tab.get)
include hL
theorem markedR_v {lo hi skips:Int} {s':Nat} {B:List Int} {k':Option Nat} {s2:Nat} {ds:List (Int×Bool)} {k2:Option Nat} (hs':s'=1∨B=[]) (hB:B.length≤1000) (hds:s2=2∨ds=[]) (hd:ds.length < 4611686018427387904) :
    VFn L 178 [.agg [.int .u8 lo,.int .u8 hi,.int .i64 skips],.agg [tl urow s' B k'],tl drow s2 ds k2] (.tup [lsV brow 1 (mkR lo hi B ds B.length).1,lsV mrow 1 (mkR lo hi B ds B.length).2]):=by
 refine VFn.start (F:=T178.1) (by rw [hL];rfl) rfl rfl (by simp [V.closed,V.closeds,closed_lsV]) ?_
 refine Wn0 ?_
 refine wPad [some 0,some 1,none,none] (H1:=[some (.arr 3 [[.int .u8 lo,.int .u8 hi,.int .i64 skips]]),some (.arr 1 [[tl urow s' B k']]),none,none]) rfl rfl rfl ?_
 refine wCntH rfl 10 B.length (fun j=>[(8,accV 2 1 (mkR lo hi B ds j).1),(9,accV 3 1 (mkR lo hi B ds j).2)]) (fun j=>[some (.arr 3 [[.int .u8 lo,.int .u8 hi,.int .i64 skips]]),some (.arr 1 [[tl urow s' B k']]),accB brow 1 (mkR lo hi B ds j).1,accB mrow 1 (mkR lo hi B ds j).2]) (fun _=>True) rfl rfl trivial ?_ ?_
 ·intro j hj _
  obtain ⟨b,hx,hm⟩:=get_of hj
  obtain rfl:=size_of hs' hj
  have hwj:=wrap_succ (show j < 9223372036854775807 by omega)
  obtain ⟨hl1,hl2⟩:=mkR_len (lo:=lo) (hi:=hi) (B:=B) (ds:=ds) j
  have hstep:mkR lo hi B ds (j+1)=((mkR lo hi B ds j).1++[if doubtR lo hi b then (decR ds j).1 else decide (hi≤b)],(mkR lo hi B ds j).2++(if doubtR lo hi b&&!(decR ds j).2 then [(j:Int)] else [])):=by
   conv=>lhs;unfold mkR
   rw [hx]
  rw [hstep]
  generalize mkR lo hi B ds j=S at *
  obtain ⟨S1,S2⟩:=S
  simp only at hl1 hl2
  have kd:=doubtR_v hL (lo:=lo) (hi:=hi) (skips:=skips) (b:=b)
  have ke:=decR_v hL (l:=ds) (c:=k2) (b:=j) hds hd
  generalize decR ds (j:Int)=R at *
  obtain ⟨R1,R2⟩:=R
  have hr1:(S1.length+1)*1≤140737488355328:=by omega
  have hr2:(S2.length+1)*8≤140737488355328:=by omega
  have hge:binV .geq (.int .u8 b) (.int .u8 hi)=some (.bool (decide (hi≤b))):=rfl
  generalize decide (hi≤b)=g at *
  dsimp only at ke ⊢
  generalize doubtR lo hi b=q at *
  rw [accV_snoc,accB_snoc]
  cases q with
  | false=>
   simp only [Bool.false_and,Bool.false_eq_true,if_false,List.append_nil]
   by_cases hs1:S1=[]
   ·subst hs1
    rw [accV_nil,accB_nil]
    refine Xf1 (Q5 (show (j:Int) < B.length by omega) (iT hj) hx @urow_eq (Q3 hge hwj hr1)) kd ?_
    refine qR_s [some 0,some 1,some 5,some 3] [] rfl ?_ ?_ trivial
    ·exact congrArg (fun v=>[(2,tl drow s2 ds k2),(3,V.ptr 0 3 0 0),(4,V.ptr 1 1 0 0),(8,V.ref 2 1 0 1 none),(9,v),(10,V.int .i64 ((j+1:Nat):Int))]) (accV_ren rfl)
    ·exact sh_c rfl (sh_c rfl (sh_c rfl (sh_c accB_rnm sh_n)))
   ·rw [accV_cons hs1,accB_cons hs1]
    refine Xf1 (Q5 (show (j:Int) < B.length by omega) (iT hj) hx @urow_eq (Q3 hge hwj hr1)) kd ?_
    refine qR_s [some 0,some 1,some 5,some 3] [] rfl ?_ ?_ trivial
    ·exact congrArg (fun v=>[(2,tl drow s2 ds k2),(3,V.ptr 0 3 0 0),(4,V.ptr 1 1 0 0),(8,V.ref 2 1 0 (S1.length+1) none),(9,v),(10,V.int .i64 ((j+1:Nat):Int))]) (accV_ren rfl)
    ·exact sh_c rfl (sh_c rfl (sh_c (sh_b (l:=S1++[g]) closed_brw (by rw [List.map_append];rfl)) (sh_c accB_rnm sh_n)))
  | true=>
   cases R2 with
   | true=>
    simp only [Bool.not_true,Bool.and_false,Bool.false_eq_true,if_false,if_true,List.append_nil]
    by_cases hs1:S1=[]
    ·subst hs1
     rw [accV_nil,accB_nil]
     refine Xf2 (Q5 (show (j:Int) < B.length by omega) (iT hj) hx @urow_eq (Q3 hge hwj hr1)) kd ke ?_
     refine qR_s [some 0,some 1,some 5,some 3] [] rfl ?_ ?_ trivial
     ·exact congrArg (fun v=>[(2,tl drow s2 ds k2),(3,V.ptr 0 3 0 0),(4,V.ptr 1 1 0 0),(8,V.ref 2 1 0 1 none),(9,v),(10,V.int .i64 ((j+1:Nat):Int))]) (accV_ren rfl)
     ·exact sh_c rfl (sh_c rfl (sh_c rfl (sh_c accB_rnm sh_n)))
    ·rw [accV_cons hs1,accB_cons hs1]
     refine Xf2 (Q5 (show (j:Int) < B.length by omega) (iT hj) hx @urow_eq (Q3 hge hwj hr1)) kd ke ?_
     refine qR_s [some 0,some 1,some 5,some 3] [] rfl ?_ ?_ trivial
     ·exact congrArg (fun v=>[(2,tl drow s2 ds k2),(3,V.ptr 0 3 0 0),(4,V.ptr 1 1 0 0),(8,V.ref 2 1 0 (S1.length+1) none),(9,v),(10,V.int .i64 ((j+1:Nat):Int))]) (accV_ren rfl)
     ·exact sh_c rfl (sh_c rfl (sh_c (sh_b (l:=S1++[R1]) closed_brw (congrArg (fun r=>some (Blk.arr 1 r)) (List.map_append (f:=brow) (l₁:=S1) (l₂:=[R1])).symm)) (sh_c accB_rnm sh_n)))
   | false=>
    simp only [Bool.not_false,Bool.and_true,if_true]
    rw [accV_snoc,accB_snoc]
    by_cases hs2:S2=[]
    ·subst hs2
     rw [accV_nil,accB_nil]
     by_cases hs1:S1=[]
     ·subst hs1
      rw [accV_nil,accB_nil]
      refine Xf2 (Q5 (show (j:Int) < B.length by omega) (iT hj) hx @urow_eq (Q4 hge hwj hr1 hr2)) kd ke ?_
      exact qR_s [some 0,some 1,some 7,some 5] [] rfl rfl (sh_c rfl (sh_c rfl (sh_c rfl (sh_c rfl sh_n)))) trivial
     ·rw [accV_cons hs1,accB_cons hs1]
      refine Xf2 (Q5 (show (j:Int) < B.length by omega) (iT hj) hx @urow_eq (Q4 hge hwj hr1 hr2)) kd ke ?_
      exact qR_s [some 0,some 1,some 7,some 5] [] rfl rfl (sh_c rfl (sh_c rfl (sh_c (sh_b (l:=S1++[R1]) closed_brw (congrArg (fun r=>some (Blk.arr 1 r)) (List.map_append (f:=brow) (l₁:=S1) (l₂:=[R1])).symm)) (sh_c rfl sh_n)))) trivial
    ·rw [accV_cons hs2,accB_cons hs2]
     by_cases hs1:S1=[]
     ·subst hs1
      rw [accV_nil,accB_nil]
      refine Xf2 (Q5 (show (j:Int) < B.length by omega) (iT hj) hx @urow_eq (Q4 hge hwj hr1 hr2)) kd ke ?_
      exact qR_s [some 0,some 1,some 7,some 5] [] rfl rfl (sh_c rfl (sh_c rfl (sh_c rfl (sh_c (sh_b (l:=S2++[(j:Int)]) closed_mrow (by rw [List.map_append];rfl)) sh_n)))) trivial
     ·rw [accV_cons hs1,accB_cons hs1]
      refine Xf2 (Q5 (show (j:Int) < B.length by omega) (iT hj) hx @urow_eq (Q4 hge hwj hr1 hr2)) kd ke ?_
      exact qR_s [some 0,some 1,some 7,some 5] [] rfl rfl (sh_c rfl (sh_c rfl (sh_c (sh_b (l:=S1++[R1]) closed_brw (congrArg (fun r=>some (Blk.arr 1 r)) (List.map_append (f:=brow) (l₁:=S1) (l₂:=[R1])).symm)) (sh_c (sh_b (l:=S2++[(j:Int)]) closed_mrow (by rw [List.map_append];rfl)) sh_n)))) trivial
 ·intro _
  refine Wn0 ?_
  generalize mkR lo hi B ds B.length=S at *
  obtain ⟨S1,S2⟩:=S
  exact FnQ.frz [2,3] rfl (congr (congrArg (fun u v=>V.tup [u,v]) (accFrz closed_brw (by decide) rfl rfl)) (accFrz closed_mrow (by decide) rfl rfl))
end Go.Proofs.YtigdhgbkgfagiaaGreat
namespace Go.Proofs.YtigdhgbkgfagiaaGreat
def isB (r:Nat):Bool:=decide (1≤r)&&decide (r≤16)
def oneB (r:Nat):Bool:=decide (5≤r)&&decide (r≤10)
def listsB (r:Nat):Bool:=decide (14≤r)&&decide (r≤16)
def kindB (r:Nat):Int:=if r=1∨r=2∨r=13∨r=14∨r=15∨r=16 then 2 else if r=3 then 3 else 1
def candsB (l:List (List UInt8)):Bool:=l.all namedS&&!twiceL l 0 l.length
def seatsB (c:Ct):Bool:=if oneB c.rule then decide (c.seats=1) else (listsB c.rule||decide (c.seats≤c.cands.length))
def mayB (c:Ct):Bool:=namedS c.name&&(decide (1≤c.cands.length)&&(decide (c.cands.length≤10)&&(isB c.rule&&(decide (1≤c.seats)&&(decide (c.seats≤10)&&(candsB c.cands&&seatsB c))))))
theorem twice_iff {l:List (List UInt8)}:∀(n j:Nat),twiceL l j n=true↔∃i x,j≤i∧i < j+n∧l[i]?=some x∧x∈l.take i
 | 0,j=>by
  simp only [twiceL]
  exact ⟨fun h=>(by cases h),fun ⟨i,_,h1,h2,_⟩=>absurd h2 (by omega)⟩
 | n+1,j=>by
  unfold twiceL
  rw [Bool.or_eq_true,twice_iff n (j+1)]
  constructor
  ·rintro (h|⟨i,x,h1,h2,h3,h4⟩)
   ·cases hx:l[j]? with
    | none=>rw [hx] at h;cases h
    | some x=>
     rw [hx] at h
     exact ⟨j,x,Nat.le_refl _,by omega,hx,by simpa using h⟩
   ·exact ⟨i,x,by omega,by omega,h3,h4⟩
  ·rintro ⟨i,x,h1,h2,h3,h4⟩
   by_cases hij:i=j
   ·subst hij
    left
    rw [h3]
    simpa using h4
   ·exact .inr ⟨i,x,by omega,by omega,h3,h4⟩
theorem kind_eq {r:Nat} (h:isB r=true):kindB r=kindR r:=by
 unfold isB at h
 simp at h
 have h':r=1∨r=2∨r=3∨r=4∨r=5∨r=6∨r=7∨r=8∨r=9∨r=10∨r=11∨r=12∨r=13∨r=14∨r=15∨r=16:=by omega
 rcases h' with rfl|rfl|rfl|rfl|rfl|rfl|rfl|rfl|rfl|rfl|rfl|rfl|rfl|rfl|rfl|rfl <;> rfl
theorem alone_eq {r:Nat} (h:isB r=true):(decide (r=1)||listsB r)=aloneR r:=by
 unfold isB at h
 simp at h
 have h':r=1∨r=2∨r=3∨r=4∨r=5∨r=6∨r=7∨r=8∨r=9∨r=10∨r=11∨r=12∨r=13∨r=14∨r=15∨r=16:=by omega
 rcases h' with rfl|rfl|rfl|rfl|rfl|rfl|rfl|rfl|rfl|rfl|rfl|rfl|rfl|rfl|rfl|rfl <;> rfl
theorem seats_eq {r:Nat}:(isB r=true∧(if oneB r then seatsR r=1 else if listsB r then seatsR r=3 else seatsR r=2))∨(isB r=false∧seatsR r=0):=by
 by_cases h:isB r=true
 ·refine .inl ⟨h,?_⟩
  unfold isB at h
  simp at h
  have h':r=1∨r=2∨r=3∨r=4∨r=5∨r=6∨r=7∨r=8∨r=9∨r=10∨r=11∨r=12∨r=13∨r=14∨r=15∨r=16:=by omega
  rcases h' with rfl|rfl|rfl|rfl|rfl|rfl|rfl|rfl|rfl|rfl|rfl|rfl|rfl|rfl|rfl|rfl <;> rfl
 ·refine .inr ⟨by simpa using h,?_⟩
  unfold isB at h
  simp at h
  by_cases h0:r=0
  ·subst h0;rfl
  ·have:=h (by omega)
   unfold seatsR
   rw [rule_hi (by omega)]
theorem all_named {l:List (List UInt8)}:l.all namedS=!l.any oddS:=by
 rw [List.not_any_eq_all_not];rfl
theorem may_eq {c:Ct}:mayB c=(decide (c.cands.length≤10)&&okCt c):=by
 have hs:=seats_eq (r:=c.rule)
 unfold mayB okCt fitsC candsB seatsB
 rw [all_named,show namedS c.name=!oddS c.name from rfl]
 have hn:decide (1≤c.cands.length)=!decide (c.cands=[]):=by
  cases c.cands <;> simp
 rw [hn]
 generalize oddS c.name=b1
 generalize c.cands.any oddS=b2
 generalize twiceL c.cands 0 c.cands.length=b3
 generalize decide (c.cands=[])=b4
 generalize decide (c.cands.length≤10)=b5
 rcases hs with ⟨h1,h2⟩|⟨h1,h2⟩
 ·rw [h1]
  cases ho:oneB c.rule with
  | true=>
   rw [ho,if_pos rfl] at h2
   rw [if_pos h2,if_pos rfl]
   cases b1 <;> cases b2 <;> cases b3 <;> cases b4 <;> cases b5 <;> simp [Bool.and_assoc]
  | false=>
   rw [ho,if_neg (by simp)] at h2
   rw [if_neg (by simp)]
   cases hl:listsB c.rule with
   | true=>
    rw [hl,if_pos rfl] at h2
    rw [h2]
    cases b1 <;> cases b2 <;> cases b3 <;> cases b4 <;> cases b5 <;> simp [Bool.and_assoc]
   | false=>
    rw [hl,if_neg (by simp)] at h2
    rw [h2]
    cases b1 <;> cases b2 <;> cases b3 <;> cases b4 <;> cases b5 <;> simp [Bool.and_assoc]
 ·rw [h1,h2]
  cases b1 <;> cases b2 <;> cases b3 <;> cases b4 <;> cases b5 <;> simp [Bool.and_assoc]
variable {L:Lib} (hL:L.T=tab.get)
include hL
theorem isR_v {r:Nat}:VFn L 128 [.int .u8 r] (.bool (isB r)):=by
 refine VFn.start (F:=T128.1) (by rw [hL];rfl) rfl rfl rfl ?_
 unfold isB
 by_cases h1:1≤r
 ·rw [decide_eq_true h1,Bool.true_and]
  by_cases h2:r≤16
  ·rw [decide_eq_true h2]
   refine Wf0 (Q2 (show (1:Int)≤r by omega) (show (r:Int)≤16 by omega)) ?_
   exact FnQ.ret rfl rfl
  ·rw [decide_eq_false h2]
   refine Wf0 (Q2 (show (1:Int)≤r by omega) (show ¬(r:Int)≤16 by omega)) ?_
   exact FnQ.ret rfl rfl
 ·rw [decide_eq_false h1,Bool.false_and]
  refine Wf0 (show ¬(1:Int)≤r by omega) ?_
  exact FnQ.ret rfl rfl
theorem oneR_v {r:Nat}:VFn L 129 [.int .u8 r] (.bool (oneB r)):=by
 refine VFn.start (F:=T129.1) (by rw [hL];rfl) rfl rfl rfl ?_
 unfold oneB
 by_cases h1:5≤r
 ·rw [decide_eq_true h1,Bool.true_and]
  by_cases h2:r≤10
  ·rw [decide_eq_true h2]
   refine Wf0 (Q2 (show (5:Int)≤r by omega) (show (r:Int)≤10 by omega)) ?_
   exact FnQ.ret rfl rfl
  ·rw [decide_eq_false h2]
   refine Wf0 (Q2 (show (5:Int)≤r by omega) (show ¬(r:Int)≤10 by omega)) ?_
   exact FnQ.ret rfl rfl
 ·rw [decide_eq_false h1,Bool.false_and]
  refine Wf0 (show ¬(5:Int)≤r by omega) ?_
  exact FnQ.ret rfl rfl
theorem listsR_v {r:Nat}:VFn L 130 [.int .u8 r] (.bool (listsB r)):=by
 refine VFn.start (F:=T130.1) (by rw [hL];rfl) rfl rfl rfl ?_
 unfold listsB
 by_cases h1:14≤r
 ·rw [decide_eq_true h1,Bool.true_and]
  by_cases h2:r≤16
  ·rw [decide_eq_true h2]
   refine Wf0 (Q2 (show (14:Int)≤r by omega) (show (r:Int)≤16 by omega)) ?_
   exact FnQ.ret rfl rfl
  ·rw [decide_eq_false h2]
   refine Wf0 (Q2 (show (14:Int)≤r by omega) (show ¬(r:Int)≤16 by omega)) ?_
   exact FnQ.ret rfl rfl
 ·rw [decide_eq_false h1,Bool.false_and]
  refine Wf0 (show ¬(14:Int)≤r by omega) ?_
  exact FnQ.ret rfl rfl
theorem marksN_v {r n:Nat}:VFn L 182 [.int .u8 r,.int .i64 n] (.int .i64 (if decide (r=1)||listsB r then (1:Int) else n)):=by
 have kl:=listsR_v hL (r:=r)
 refine VFn.start (F:=T182.1) (by rw [hL];rfl) rfl rfl rfl ?_
 by_cases h1:r=1
 ·rw [decide_eq_true h1,Bool.true_or,if_pos rfl]
  have d1:decide ((r:Int)=1)=true:=decide_eq_true (by omega)
  refine Wf0 d1 ?_
  exact FnQ.ret rfl rfl
 ·rw [decide_eq_false h1,Bool.false_or]
  have d1:decide ((r:Int)=1)=false:=decide_eq_false (by omega)
  generalize listsB r=b at *
  cases b with
  | true=>
   refine Wf1 d1 kl ?_
   exact FnQ.ret rfl rfl
  | false=>
   refine Wf1 d1 kl ?_
   exact FnQ.ret rfl rfl
theorem kindOf_v {r:Nat}:VFn L 179 [.int .u8 r] (.int .u8 (kindB r)):=by
 refine VFn.start (F:=T179.1) (by rw [hL];rfl) rfl rfl rfl ?_
 unfold kindB
 by_cases h1:r=1
 ·rw [if_pos (by simp [h1])]
  have d1:decide ((r:Int)=1)=true:=decide_eq_true (by omega)
  refine Wf0 d1 ?_
  exact FnQ.ret rfl rfl
 ·have d1:decide ((r:Int)=1)=false:=decide_eq_false (by omega)
  by_cases h2:r=2
  ·rw [if_pos (by simp [h2])]
   have d2:decide ((r:Int)=2)=true:=decide_eq_true (by omega)
   refine Wf0 (Q2 d1 d2) ?_
   exact FnQ.ret rfl rfl
  ·have d2:decide ((r:Int)=2)=false:=decide_eq_false (by omega)
   by_cases h13:r=13
   ·rw [if_pos (by simp [h13])]
    have d13:decide ((r:Int)=13)=true:=decide_eq_true (by omega)
    refine Wf0 (Q3 d1 d2 d13) ?_
    exact FnQ.ret rfl rfl
   ·have d13:decide ((r:Int)=13)=false:=decide_eq_false (by omega)
    by_cases h14:r=14
    ·rw [if_pos (by simp [h14])]
     have d14:decide ((r:Int)=14)=true:=decide_eq_true (by omega)
     refine Wf0 (Q4 d1 d2 d13 d14) ?_
     exact FnQ.ret rfl rfl
    ·have d14:decide ((r:Int)=14)=false:=decide_eq_false (by omega)
     by_cases h15:r=15
     ·rw [if_pos (by simp [h15])]
      have d15:decide ((r:Int)=15)=true:=decide_eq_true (by omega)
      refine Wf0 (Q5 d1 d2 d13 d14 d15) ?_
      exact FnQ.ret rfl rfl
     ·have d15:decide ((r:Int)=15)=false:=decide_eq_false (by omega)
      by_cases h16:r=16
      ·rw [if_pos (by simp [h16])]
       have d16:decide ((r:Int)=16)=true:=decide_eq_true (by omega)
       refine Wf0 (Q5 d1 d2 d13 d14 (Q2 d15 d16)) ?_
       exact FnQ.ret rfl rfl
      ·have d16:decide ((r:Int)=16)=false:=decide_eq_false (by omega)
       rw [if_neg (by omega)]
       by_cases h3:r=3
       ·rw [if_pos h3]
        have d3:decide ((r:Int)=3)=true:=decide_eq_true (by omega)
        refine Wf0 (Q5 d1 d2 d13 d14 (Q3 d15 d16 d3)) ?_
        exact FnQ.ret rfl rfl
       ·rw [if_neg h3]
        have d3:decide ((r:Int)=3)=false:=decide_eq_false (by omega)
        refine Wf0 (Q5 d1 d2 d13 d14 (Q3 d15 d16 d3)) ?_
        exact FnQ.ret rfl rfl
theorem nameR_v {s:List UInt8} (hs:s.length < 4611686018427387904):VFn L 113 [.str s] (.bool (namedS s)):=by
 refine VFn.start (F:=T113.1) (by rw [hL];rfl) rfl rfl rfl ?_
 by_cases h0:s.length < 1
 ·obtain rfl:s=[]:=by cases s with|nil=>rfl|cons x r=>simp at h0
  rw [show namedS []=false from rfl]
  refine Wn0 ?_
  exact FnQ.ret rfl rfl
 ·by_cases h1:40 < s.length
  ·have hbad:namedS s=false:=by
     unfold namedS oddS
     rw [decide_eq_true (.inr h1)];rfl
   rw [hbad]
   refine Wf0 (Q2 (show ¬(s.length:Int) < 1 by omega) (show (40:Int) < s.length by omega)) ?_
   exact FnQ.ret rfl rfl
  ·refine Wf0 (Q2 (show ¬(s.length:Int) < 1 by omega) (show ¬(40:Int) < s.length by omega)) ?_
   refine wCnt rfl 3 s.length (fun _=>[]) (fun j=>(s.take j).any badB=false) rfl (by simp) ?_ ?_
   ·intro j hj hI
    obtain ⟨b,hb,hm⟩:=get_of hj
    have hw:=wrap_succ (show j < 9223372036854775807 by omega)
    by_cases h2:b.toNat < 33
    ·have hbad:namedS s=false:=by
       unfold namedS oddS
       rw [show s.any badB=true from List.any_eq_true.2 ⟨b,hm,by unfold badB;exact decide_eq_true (.inl h2)⟩]
       simp
     rw [hbad]
     refine Wf0 (Q3 hj hb (show (b.toNat:Int) < 33 by omega)) ?_
     exact FnQ.ret rfl rfl
    ·by_cases h3:126 < b.toNat
     ·have hbad:namedS s=false:=by
        unfold namedS oddS
        rw [show s.any badB=true from List.any_eq_true.2 ⟨b,hm,by unfold badB;exact decide_eq_true (.inr h3)⟩]
        simp
      rw [hbad]
      refine Wf0 (Q4 hj hb (show ¬(b.toNat:Int) < 33 by omega) (show (126:Int) < b.toNat by omega)) ?_
      exact FnQ.ret rfl rfl
     ·refine Wf0 (Q5 hj hb (show ¬(b.toNat:Int) < 33 by omega) (show ¬(126:Int) < b.toNat by omega) hw) ?_
      refine qR_n rfl rfl ?_
      rw [take_snoc hb,List.any_append,hI]
      simp [badB,h2,h3]
   ·intro hI
    rw [List.take_of_length_le (Nat.le_refl _)] at hI
    have hgood:namedS s=true:=by
     unfold namedS oddS
     rw [hI,decide_eq_false (by intro h;rcases h with h|h;· subst h;simp at h0
                                ·omega)];rfl
    rw [hgood]
    refine Wn0 ?_
    exact FnQ.ret rfl rfl
end Go.Proofs.YtigdhgbkgfagiaaGreat
namespace Go.Proofs.YtigdhgbkgfagiaaGreat
variable {L:Lib} (hL:L.T=tab.get)
include hL
theorem may_v {c:Ct} {s:Nat} {k:Option Nat} (hs:s=1∨c.cands=[]) (hn:c.name.length < 4611686018427387904) (hc:∀x∈c.cands,x.length < 4611686018427387904):VFn L 69 [.agg [.str c.name,tl srow s c.cands k,.int .i64 c.seats,.int .u8 c.rule]] (.bool (mayB c)):=by
 have kn:=nameR_v hL (s:=c.name) hn
 have ki:=isR_v hL (r:=c.rule)
 have ko:=oneR_v hL (r:=c.rule)
 have kl:=listsR_v hL (r:=c.rule)
 refine VFn.start (F:=T69.1) (by rw [hL];rfl) rfl rfl rfl ?_
 unfold mayB
 cases hN:namedS c.name with
 | false=>
  rw [hN] at kn
  rw [Bool.false_and]
  (repeat' (first|refine Z0 ?_|refine Z3 ?_|refine Z2 ?_|refine opsV_call rfl rfl (kn) ?_|simp only [seval,push_cast,↓reduceIte,↓bP_some,↓aP_true,reduceCtorEq]))
  exact FnQ.ret rfl rfl
 | true=>
  rw [hN] at kn
  rw [Bool.true_and]
  by_cases h1:1≤c.cands.length
  ·rw [decide_eq_true h1,Bool.true_and]
   have h1':¬(c.cands.length:Int) < 1:=by omega
   by_cases h2:c.cands.length≤10
   ·rw [decide_eq_true h2,Bool.true_and]
    have h2':¬(10:Int) < c.cands.length:=by omega
    cases hI:isB c.rule with
    | false=>
     rw [hI] at ki
     rw [Bool.false_and]
     (repeat' (first|refine Z0 ?_|refine Z3 ?_|refine Z2 ?_|refine opsV_call rfl rfl (kn) ?_|refine opsV_call rfl rfl (ki) ?_|simp only [seval,push_cast,↓reduceIte,↓bP_some,↓aP_true,reduceCtorEq,h1',h2']))
     exact FnQ.ret rfl rfl
    | true=>
     rw [hI] at ki
     rw [Bool.true_and]
     by_cases h3:1≤c.seats
     ·rw [decide_eq_true h3,Bool.true_and]
      have h3':¬c.seats < 1:=by omega
      by_cases h4:c.seats≤10
      ·rw [decide_eq_true h4,Bool.true_and]
       have h4':¬10 < c.seats:=by omega
       (repeat' (first|refine Z0 ?_|refine Z3 ?_|refine Z2 ?_|refine opsV_call rfl rfl (kn) ?_|refine opsV_call rfl rfl (ki) ?_|simp only [seval,push_cast,↓reduceIte,↓bP_some,↓aP_true,reduceCtorEq,h1',h2',h3',h4']))
       refine wCnt rfl 3 c.cands.length (fun _=>[]) (fun j=>(c.cands.take j).all namedS=true∧∀i x,i < j→c.cands[i]?=some x→¬x∈c.cands.take i) rfl ⟨rfl,fun i x h=>absurd h (by omega)⟩ ?_ ?_
       ·rintro j hj ⟨i1,i2⟩
        obtain ⟨x,hx,hm⟩:=get_of hj
        obtain rfl:=size_of hs hj
        have hw:=wrap_succ (show j < 9223372036854775807 by omega)
        have kx:=nameR_v hL (s:=x) (hc x hm)
        cases hX:namedS x with
        | false=>
         rw [hX] at kx
         have hf:candsB c.cands=false:=by
          unfold candsB
          rw [show c.cands.all namedS=false from List.all_eq_false.2 ⟨x,hm,by rw [hX];simp⟩];rfl
         rw [hf,Bool.false_and]
         (repeat' (first|refine Z0 ?_|refine Z3 ?_|refine Z2 ?_|refine opsV_call rfl rfl (kx) ?_|simp only [seval,push_cast,↓reduceIte,↓bP_some,↓aP_true,reduceCtorEq,hj,iaQ_tl hj,hx,srow_eq]))
         exact FnQ.ret rfl rfl
        | true=>
         rw [hX] at kx
         (repeat' (first|refine Z0 ?_|refine Z3 ?_|refine Z2 ?_|refine opsV_call rfl rfl (kx) ?_|simp only [seval,push_cast,↓reduceIte,↓bP_some,↓aP_true,reduceCtorEq,hj,iaQ_tl hj,hx,srow_eq]))
         refine wCnt rfl 4 j (fun _=>[]) (fun k=>¬x∈c.cands.take k) rfl (by simp) ?_ ?_
         ·intro k hk hK
          have hk':k < c.cands.length:=by omega
          obtain ⟨y,hy,hn⟩:=get_of hk'
          have hw2:=wrap_succ (show k < 9223372036854775807 by omega)
          by_cases hxy:y=x
          ·have hb:(y == x)=true:=by simp [hxy]
           have hf:candsB c.cands=false:=by
            unfold candsB
            rw [show twiceL c.cands 0 c.cands.length=true from (twice_iff _ _).2 ⟨j,x,by omega,by omega,hx,by
             rw [←hxy]
             exact List.mem_of_getElem? (i:=k) (by rw [List.getElem?_take,if_pos hk];exact hy)⟩]
            simp
           rw [hf,Bool.false_and]
           (repeat' (first|refine Z0 ?_|refine Z3 ?_|refine Z2 ?_|simp only [seval,push_cast,↓reduceIte,↓bP_some,↓aP_true,reduceCtorEq,show (k:Int) < j by omega,iaQ_tl hj,hx,srow_eq,iaQ_tl hk',hy,seqV,hb]))
           exact FnQ.ret rfl rfl
          ·have hb:(y == x)=false:=by simp [hxy]
           (repeat' (first|refine Z0 ?_|refine Z3 ?_|refine Z2 ?_|simp only [seval,push_cast,↓reduceIte,↓bP_some,↓aP_true,reduceCtorEq,show (k:Int) < j by omega,iaQ_tl hj,hx,srow_eq,iaQ_tl hk',hy,seqV,hb,hw2]))
           refine qR_n rfl rfl ?_
           rw [take_snoc hy]
           simp only [List.mem_append,List.mem_singleton,not_or]
           exact ⟨hK,fun e=>hxy e.symm⟩
         ·intro hK
          refine Wf0 hw ?_
          refine qR_n rfl rfl ⟨?_,?_⟩
          ·rw [take_snoc hx,List.all_append,i1]
           simp [hX]
          ·intro i y hi hy
           by_cases hij:i=j
           ·subst hij
            rw [hx] at hy;cases hy
            exact hK
           ·exact i2 i y (by omega) hy
       ·rintro ⟨i1,i2⟩
        rw [List.take_of_length_le (Nat.le_refl _)] at i1
        have ht:candsB c.cands=true:=by
         unfold candsB
         rw [i1,show twiceL c.cands 0 c.cands.length=false by
          cases h:twiceL c.cands 0 c.cands.length with
          | false=>rfl
          | true=>
           obtain ⟨i,x,h1,h2,h3,h4⟩:=(twice_iff _ _).1 h
           exact absurd h4 (i2 i x (by omega) h3)]
         rfl
        rw [ht,Bool.true_and]
        unfold seatsB
        cases hO:oneB c.rule with
        | true=>
         rw [hO] at ko
         rw [if_pos rfl]
         refine Wn1 ko ?_
         exact FnQ.ret rfl rfl
        | false=>
         rw [hO] at ko
         rw [if_neg (by simp)]
         cases hLs:listsB c.rule with
         | true=>
          rw [hLs] at kl
          rw [Bool.true_or]
          refine Wn2 ko kl ?_
          exact FnQ.ret rfl rfl
         | false=>
          rw [hLs] at kl
          rw [Bool.false_or]
          refine Wn2 ko kl ?_
          exact FnQ.ret rfl rfl
      ·rw [decide_eq_false h4,Bool.false_and]
       refine Wf2 (Q4 h1' h2' h3' (show 10 < c.seats by omega)) kn ki ?_
       exact FnQ.ret rfl rfl
     ·rw [decide_eq_false h3,Bool.false_and]
      refine Wf2 (Q3 h1' h2' (show c.seats < 1 by omega)) kn ki ?_
      exact FnQ.ret rfl rfl
   ·rw [decide_eq_false h2,Bool.false_and]
    refine Wf1 (Q2 h1' (show (10:Int) < c.cands.length by omega)) kn ?_
    exact FnQ.ret rfl rfl
  ·rw [decide_eq_false h1,Bool.false_and]
   refine Wf1 (show (c.cands.length:Int) < 1 by omega) kn ?_
   exact FnQ.ret rfl rfl
theorem check07_v {c:Ct} {s:Nat} {k:Option Nat} (hs:s=1∨c.cands=[]) (hn:c.name.length < 4611686018427387904) (hc:∀x∈c.cands,x.length < 4611686018427387904):VFn L 214 [.agg [.str c.name,tl srow s c.cands k,.int .i64 c.seats,.int .u8 c.rule]] (.int .i64 (checkC c)):=by
 have km:=may_v hL (k:=k) hs hn hc
 rw [may_eq] at km
 refine VFn.start (F:=T214.1) (by rw [hL];rfl) rfl rfl rfl ?_
 unfold checkC
 by_cases h1:10 < c.cands.length
 ·rw [if_pos h1]
  refine Wf0 (show (10:Int) < c.cands.length by omega) ?_
  exact FnQ.ret rfl rfl
 ·rw [if_neg h1]
  rw [decide_eq_true (show c.cands.length≤10 by omega),Bool.true_and] at km
  have h1':¬(10:Int) < c.cands.length:=by omega
  generalize okCt c=b at *
  cases b with
  | true=>
   rw [if_pos rfl]
   refine Wf1 h1' km ?_
   exact FnQ.ret rfl rfl
  | false=>
   rw [if_neg (by simp)]
   refine Wf1 h1' km ?_
   exact FnQ.ret rfl rfl
theorem wideR_v {c:Ct} {s:Nat} {k:Option Nat} (h:isB c.rule=true):VFn L 215 [.agg [.str c.name,tl srow s c.cands k,.int .i64 c.seats,.int .u8 c.rule]] (.int .i64 (wideF (kindR c.rule) c.cands.length)):=by
 have kk:=kindOf_v hL (r:=c.rule)
 rw [kind_eq h] at kk
 refine VFn.start (F:=T215.1) (by rw [hL];rfl) rfl rfl rfl ?_
 unfold wideF
 generalize kindR c.rule=kd at *
 by_cases h1:kd=1
 ·rw [if_pos h1]
  have d1:decide (kd=1)=true:=decide_eq_true h1
  refine Wf1 d1 kk ?_
  exact FnQ.ret rfl rfl
 ·rw [if_neg h1]
  have d1:decide (kd=1)=false:=decide_eq_false h1
  by_cases h3:kd=3
  ·rw [if_pos h3]
   have d3:decide (kd=3)=true:=decide_eq_true h3
   refine Wf1 (Q2 d1 d3) kk ?_
   exact FnQ.ret rfl rfl
  ·rw [if_neg h3]
   have d3:decide (kd=3)=false:=decide_eq_false h3
   refine Wf1 (Q2 d1 d3) kk ?_
   exact FnQ.ret rfl rfl
omit hL in
theorem is_of_check {c:Ct} (h:checkC c=0):isB c.rule=true:=by
 obtain ⟨-,-,h3⟩:=check_len h
 rcases seats_eq (r:=c.rule) with ⟨h1,-⟩|⟨-,h2⟩
 ·exact h1
 ·omega
theorem boxesR_v {c:Ct} {s:Nat} {k:Option Nat} (hs:s=1∨c.cands=[]) (hn:c.name.length < 4611686018427387904) (hc:∀x∈c.cands,x.length < 4611686018427387904):VFn L 203 [.agg [.str c.name,tl srow s c.cands k,.int .i64 c.seats,.int .u8 c.rule]] (.tup [.int .i64 (if checkC c=0 then (boxesN c:Int) else 0),.int .i64 (checkC c)]):=by
 have kc:=check07_v hL (k:=k) hs hn hc
 refine VFn.start (F:=T203.1) (by rw [hL];rfl) rfl rfl rfl ?_
 by_cases h:checkC c=0
 ·rw [if_pos h,h]
  rw [h] at kc
  have kw:=wideR_v hL (s:=s) (k:=k) (is_of_check h)
  obtain ⟨hc1,hc2,-⟩:=check_len h
  have hw:=wide_le (k:=kindR c.rule) hc2
  have hm:IntKind.i64.wrap ((c.cands.length:Int)*(wideF (kindR c.rule) c.cands.length:Nat))=((boxesN c:Nat):Int):=by
   rw [←Int.natCast_mul]
   have:c.cands.length*wideF (kindR c.rule) c.cands.length≤110:=Nat.mul_le_mul hc2 hw
   exact wrap_nat (by omega)
  generalize wideF (kindR c.rule) c.cands.length=w at *
  refine Wf2 hm kc kw ?_
  exact FnQ.ret rfl rfl
 ·rw [if_neg h]
  refine Wf1 h kc ?_
  exact FnQ.ret rfl rfl
theorem checkR_v {c:Ct} {s:Nat} {k:Option Nat} {s':Nat} {B:List Int} {k':Option Nat} (hs:s=1∨c.cands=[]) (hn:c.name.length < 4611686018427387904) (hc:∀x∈c.cands,x.length < 4611686018427387904) (hs':s'=1∨B=[]) (hB:B.length < 4611686018427387904):VFn L 176 [.agg [.str c.name,tl srow s c.cands k,.int .i64 c.seats,.int .u8 c.rule],.agg [tl urow s' B k']] (.int .i64 (shCheck c B)):=by
 have kb:=boxesR_v hL (k:=k) hs hn hc
 refine VFn.start (F:=T176.1) (by rw [hL];rfl) rfl rfl rfl ?_
 unfold shCheck
 by_cases h:checkC c=0
 ·rw [if_pos h]
  rw [if_pos h,h] at kb
  by_cases hl:B.length=boxesN c
  ·rw [←hl] at kb
   have hne:¬((B.length:Int)≠B.length):=fun e=>e rfl
   have dne:decide ((B.length:Int)≠B.length)=false:=decide_eq_false hne
   (repeat' (first|refine Z0 ?_|refine Z1 ?_|refine Z2 ?_|refine opsV_call rfl rfl (kb) ?_|refine opsP_call rfl (kb) ?_|simp only [seval,push_cast,↓reduceIte,↓bP_some,↓aP_true,reduceCtorEq,ne_eq,not_true_eq_false,decide_false,decide_not]))
   refine wCnt rfl 7 B.length (fun _=>[]) (fun j=>(B.take j).any (fun b=>decide (100 < b))=false) rfl (by simp) ?_ ?_
   ·intro j hj hI
    obtain ⟨b,hx,hm⟩:=get_of hj
    obtain rfl:=size_of hs' hj
    have hw:=wrap_succ (show j < 9223372036854775807 by omega)
    by_cases hb:100 < b
    ·rw [if_pos (.inr (any_at hm (decide_eq_true hb)))]
     refine Wf0 (Q5 hj (show (j:Int) < B.length by omega) (iT hj) hx (Q2 @urow_eq hb)) ?_
     exact FnQ.ret rfl rfl
    ·refine Wf0 (Q5 hj (show (j:Int) < B.length by omega) (iT hj) hx (Q3 @urow_eq hb hw)) ?_
     refine qR_n rfl rfl ?_
     rw [take_snoc hx,List.any_append,hI]
     simp [hb]
   ·intro hI
    rw [List.take_of_length_le (Nat.le_refl _)] at hI
    rw [if_neg (by rw [hI];simp [hl])]
    refine Wn0 ?_
    exact FnQ.ret rfl rfl
  ·rw [if_pos (.inl hl)]
   refine Wf1 (show ¬(B.length:Int)=boxesN c by omega) kb ?_
   exact FnQ.ret rfl rfl
 ·rw [if_neg h]
  rw [if_neg h] at kb
  refine Wf1 h kb ?_
  exact FnQ.ret rfl rfl
end Go.Proofs.YtigdhgbkgfagiaaGreat
