/- Copies of fractions, ballots, batches, walked: what is copied is what was there. · Copies of batches and of boards, walked. · Copies of outcomes, walked. · Copies of elections; elections begun: by the program and by the reference, walked. -/
import Derived.Test.YtigdhgbkgfagiaaGreatVM1
import Derived.Test.YtigdhgbkgfagiaaGreatVE1
import Derived.Test.YtigdhgbkgfagiaaGreatVR5
set_option maxRecDepth 100000
set_option maxHeartbeats 4000000
set_option linter.unusedVariables false
set_option linter.unusedSimpArgs false
namespace Go.Proofs.YtigdhgbkgfagiaaGreat
theorem set_row {α:Type} {f:α→List V} {l:List α} {j:Nat} {x:α} {row:List V} (hx:l[j]?=some x) (h:row=f x):(l.map f).set j row=l.map f:=by
 subst h
 refine List.ext_getElem? fun i=>?_
 rw [List.getElem?_set]
 by_cases e:j=i
 ·subst e
  have:=(List.getElem?_eq_some_iff.1 hx).1
  rw [if_pos rfl,if_pos (by rw [List.length_map];exact this),List.getElem?_map,hx];rfl
 ·rw [if_neg e]
theorem ren_rows {α:Type} {f:α→List V} (hf:∀x,(f x).all V.closed=true) {l:List α} {σ:Nat→Sg}:(l.map f).map (fun r=>r.map (V.ren σ))=l.map f:=by
 rw [List.map_map]
 exact List.map_congr_left fun x _=>ren_row (hf x) σ
theorem ren_set {α:Type} {f:α→List V} (hf:∀x,(f x).all V.closed=true) {l:List α} {j n:Nat} {x:α} {row:List V} {σ:Nat→Sg} (hx:l[j]?=some x) (h:row.map (V.ren σ)=f x):Blk.ren σ (.arr n ((l.map f).set j row))=.arr n (l.map f):=by
 show Blk.arr n (((l.map f).set j row).map fun r=>r.map (V.ren σ))=_
 rw [List.map_set,ren_rows hf,set_row hx h]
theorem closed_rq (x:Rq):(rqrow x).all V.closed=true:=by simp [rqrow,V.closed,closed_nlv]
theorem closed_dq (x:Dq):(dqrow x).all V.closed=true:=by simp [dqrow,V.closed,closed_nlv]
theorem closed_tq (x:Tq):(tqrow x).all V.closed=true:=by simp [tqrow,V.closed,closed_nlv]
theorem closed_hb (x:Hb):(hbrow x).all V.closed=true:=by simp [hbrow,V.closed,closed_nlv]
theorem closed_bal (x:Int×Nl Int):(balrow x).all V.closed=true:=by simp [balrow,V.closed,closed_nlv]
theorem nl_case {α:Type} (o:Nl α):o.l=[]∨∃l,o=some l∧l≠[]:=by
 cases o with
 | none=>exact .inl rfl
 | some l=>by_cases h:l=[]
           ·exact .inl h
           ·exact .inr ⟨l,rfl,h⟩
theorem cvM_full {α:Type} {n:Nat} {l:List α} (h:l≠[]):cvM n (some l)=.ref 0 n 0 l.length none:=by
 have:¬l.length=0:=fun e=>h (List.length_eq_zero_iff.1 e)
 simp only [cvM,this,if_false]
theorem MFn.atF {L:Lib} {α:Type} {f:α→List V} (hf:∀x,(f x).all V.closed=true) {n k:Nat} {l:List α} {vs:List V} (hne:l≠[]) (h:MFn L k vs (cvM n (some l)) (chM f n (some l))) (H:Heap):AFn L (.fn k) vs H (fun r H'=>r=.ref H.length n 0 l.length none∧H'=H++[some (.arr n (l.map f))]):=by
 refine AFn.mono (h.at H) ?_
 rintro _ _ ⟨rfl,rfl⟩
 rw [cvM_full hne]
 refine ⟨by rw [ren_up_ref];rfl,?_⟩
 show H++[some (Blk.ren _ (.arr n (l.map f)))]=_
 rw [ren_tl hf]
variable {L:Lib} (hL:L.T=tab.get)
include hL
theorem rqTwin_v {r:Rq} (h:okRq r):VFn L 38 [.agg (rqrow r)] (.agg (rqrow r)):=by
 refine VFn.start (F:=T38.1) (by rw [hL];rfl) rfl (by simp [V.closeds,V.closed,closed_nlv,rqrow]) (by simp [V.closed,V.closeds,closed_nlv,rqrow]) ?_
 unfold rqrow
 refine Wn2 (clone_nv hL (o:=r.num) (by have:r.num.l.length≤_:=h.1;omega)) (clone_nv hL (o:=r.den) (by have:r.den.l.length≤_:=h.2;omega)) ?_
 exact FnQ.ret rfl (by simp [V.closed,V.closeds,closed_nlv])
theorem ratios_v {o:Nl Rq} (ho:o.l.length≤2513169434843) (h:∀r∈o.l,okRq r):VFn L 85 [nlv rqrow 3 o] (nlv rqrow 3 o):=by
 refine VFn.start (F:=T85.1) (by rw [hL];rfl) rfl (by simp [V.closeds,closed_nlv]) closed_nlv ?_
 rcases nl_case o with he|⟨l,rfl,hne⟩
 ·refine Wf1 he (clone_rqv hL (o:=o) (by omega)) ?_
  refine wRoll 1 rfl ?_
  refine Wf0 (Q2 he @List.length_nil.{0}) ?_
  exact FnQ.ret rfl closed_nlv
 ·have hl:l.length≤2513169434843:=ho
  have h0:¬l.length=0:=fun e=>hne (List.length_eq_zero_iff.1 e)
  refine Wn0 ?_
  refine opsP_any rfl (MFn.atF closed_rq hne (clone_rq hL (o:=some l) (by show l.length*56≤_;omega)) _) ?_
  rintro _ _ ⟨rfl,rfl⟩
  refine Wn0 ?_
  refine wCntH rfl 9 l.length (fun _=>[]) (fun _=>[some (.arr 3 (l.map rqrow))]) (fun _=>True) rfl rfl trivial ?_ ?_
  ·intro j hj _
   obtain ⟨x,hx,hm⟩:=get_of hj
   have hw:=wrap_succ (show j < 9223372036854775807 by omega)
   have kt:=rqTwin_v hL (h x hm)
   unfold rqrow at kt
   refine Wf1 (Q4 hj hx @rqrow_eq hw) kt ?_
   exact qR_n rfl (congrArg (fun r=>[some (Blk.arr 3 r)]) (set_row (f:=rqrow) hx rfl)) trivial
  ·intro _
   refine Wn0 ?_
   rw [nlv_full hne]
   exact FnQ.frz [0] rfl (frz_refS' (fz:=[0]) (src:=[]) closed_rq (by decide) rfl rfl rfl)
end Go.Proofs.YtigdhgbkgfagiaaGreat
namespace Go.Proofs.YtigdhgbkgfagiaaGreat
variable {L:Lib} (hL:L.T=tab.get)
include hL
theorem copied_v {b:Int×Nl Int} (h:okI8 b.2):VFn L 82 [.agg (balrow b)] (.agg (balrow b)):=by
 refine VFn.start (F:=T82.1) (by rw [hL];rfl) rfl (by simp [V.closeds,V.closed,closed_nlv,balrow]) (by simp [V.closed,V.closeds,closed_nlv,balrow]) ?_
 unfold balrow
 refine Wn1 (clone_iv hL (o:=b.2) (by have:b.2.l.length≤_:=h;omega)) ?_
 exact FnQ.ret rfl (by simp [V.closed,V.closeds,closed_nlv])
theorem recTwin_v {o:Nl Hb} (ho:o.l.length≤3518437208780) (h:∀b∈o.l,okHb b):VFn L 41 [nlv hbrow 2 o] (nlv hbrow 2 o):=by
 refine VFn.start (F:=T41.1) (by rw [hL];rfl) rfl (by simp [V.closeds,closed_nlv]) closed_nlv ?_
 rcases nl_case o with he|⟨l,rfl,hne⟩
 ·refine Wf1 he (clone_hbv hL (o:=o) (by omega)) ?_
  refine wRoll 1 rfl ?_
  refine Wf0 (Q2 he @List.length_nil.{0}) ?_
  exact FnQ.ret rfl closed_nlv
 ·have hl:l.length≤3518437208780:=ho
  refine Wn0 ?_
  refine opsP_any rfl (MFn.atF closed_hb hne (clone_hb hL (o:=some l) (by show l.length*40≤_;omega)) _) ?_
  rintro _ _ ⟨rfl,rfl⟩
  refine Wn0 ?_
  refine wCntH rfl 10 l.length (fun _=>[]) (fun _=>[some (.arr 2 (l.map hbrow))]) (fun _=>True) rfl rfl trivial ?_ ?_
  ·intro j hj _
   obtain ⟨x,hx,hm⟩:=get_of hj
   have hw:=wrap_succ (show j < 9223372036854775807 by omega)
   obtain ⟨h1,h2,h3⟩:=h x hm
   rcases nl_case x.bals with he|⟨q,hq,hqe⟩
   ·have kc:=clone_bqv hL (o:=x.bals) (by omega)
    have hs:(l.map hbrow).set j [.str x.name,nlv balrow 2 x.bals]=l.map hbrow:=set_row hx rfl
    refine Wf1 (Q5 hj hx @hbrow_eq he hs) kc ?_
    refine wRoll 1 rfl ?_
    refine Wf0 (Q3 he hw @List.length_nil.{0}) ?_
    exact qR_n rfl rfl trivial
   ·obtain ⟨nm,bs⟩:=x
    simp only at hq h2 h3
    subst hq
    have hql:q.length≤4398046510976:=h2
    have hset:∀row:List V,((l.map hbrow).set j row)[j]?=some row:=fun row=>by rw [List.getElem?_set,if_pos rfl,if_pos (by rw [List.length_map];exact hj)]
    have kq:=MFn.atF closed_bal hqe (clone_bq hL (o:=some q) (by show q.length*32≤_;omega)) [some (.arr 2 (l.map hbrow))]
    refine Wf0 (Q3 hj hx @hbrow_eq) ?_
    refine opsP_any rfl kq ?_
    rintro _ _ ⟨rfl,rfl⟩
    refine Wf0 (Q5 hj hx @hbrow_eq (hset [.str nm,.ref 1 2 0 q.length none]) (Q2 @List.length_cons.{0} @List.length_nil.{0})) ?_
    refine wCntH rfl 29 q.length (fun _=>[]) (fun _=>[some (.arr 2 ((l.map hbrow).set j [.str nm,.ref 1 2 0 q.length none])),some (.arr 2 (q.map balrow))]) (fun _=>True) rfl rfl trivial ?_ ?_
    ·intro i hi _
     obtain ⟨y,hy,hym⟩:=get_of hi
     have hwi:=wrap_succ (show i < 9223372036854775807 by omega)
     have kc:=copied_v hL (h3 y hym)
     unfold balrow at kc
     have hs:(q.map balrow).set i [.int .u8 y.1,nlv mrow 1 y.2]=q.map balrow:=set_row hy rfl
     refine Wf1 (Q5 hi hj (hset [.str nm,.ref 1 2 0 q.length none]) hy (Q3 @balrow_eq hs hwi)) kc ?_
     exact qR_n rfl rfl trivial
    ·intro _
     refine Wf0 hw ?_
     refine qR_s [some 0] [1] rfl rfl ?_ trivial
     refine sh_c (congrArg some (ren_set closed_hb hx ?_)) sh_n
     show [V.str nm,V.ren _ (.ref 1 2 0 q.length none)]=[V.str nm,nlv balrow 2 (some q)]
     rw [nlv_full hqe]
     exact congrArg (fun v=>[V.str nm,v]) (frz_refS' (fz:=[1]) (src:=[some 0]) (l:=q) closed_bal (by decide) rfl rfl rfl)
  ·intro _
   refine Wn0 ?_
   rw [nlv_full hne]
   exact FnQ.frz [0] rfl (frz_refS' (fz:=[0]) (src:=[]) closed_hb (by decide) rfl rfl rfl)
def nzq {α:Type} (l:List α):Nl α:=if l=[] then none else some l
theorem enTwin_v {e:Int×Nl UInt8} (h:okEn e):VFn L 86 [.agg (enrow e)] (.agg (enrow e)):=by
 refine VFn.start (F:=T86.1) (by rw [hL];rfl) rfl (by simp [V.closeds,V.closed,closed_nlv,enrow]) (by simp [V.closed,V.closeds,closed_nlv,enrow]) ?_
 unfold enrow
 refine Wn1 (clone_byv hL (o:=e.2) (by have:e.2.l.length≤_:=h;omega)) ?_
 exact FnQ.ret rfl (by simp [V.closed,V.closeds,closed_nlv])
theorem boTwin_v {o:Nl (Int×Nl UInt8)} (ho:o.l.length≤4398046510976) (h:∀e∈o.l,okEn e):VFn L 43 [.agg [nlv enrow 2 o]] (.agg [nlv enrow 2 (nzq o.l)]):=by
 refine VFn.start (F:=T43.1) (by rw [hL];rfl) rfl (by simp [V.closeds,V.closed,closed_nlv]) (by simp [V.closed,V.closeds,closed_nlv]) ?_
 refine Wn0 ?_
 have hc:∀σ,V.ren σ (nlv enrow 2 o)=nlv enrow 2 o:=fun σ=>ren_nlv
 have hce:∀x:Int×Nl UInt8,(enrow x).all V.closed=true:=fun x=>by simp [enrow,V.closed,closed_nlv]
 refine wShift [some 0,some 1,some 2,none] [] (E1:=[(2,V.ptr 1 1 0 0),(3,V.ptr 2 1 0 0),(7,nlv enrow 2 o),(8,V.int IntKind.i64 ↑o.l.length),(9,V.int IntKind.i64 0)]) (H1:=[some (.arr 1 [[nlv enrow 2 o]]),some (.arr 1 [[nilV]]),some (.arr 1 [[accV 3 2 (o.l.take 0)]]),accB enrow 2 (o.l.take 0)]) rfl (by simp only [Env.sh,List.map_cons,List.map_nil,hc];rfl) (sh_c (congrArg some (blk_ren (by simp [V.closed,closed_nlv]))) (sh_c rfl (sh_c rfl (sh_c rfl sh_n)))) ?_
 refine wCntH rfl 9 o.l.length (fun _=>[]) (fun j=>[some (.arr 1 [[nlv enrow 2 o]]),some (.arr 1 [[nilV]]),some (.arr 1 [[accV 3 2 (o.l.take j)]]),accB enrow 2 (o.l.take j)]) (fun _=>True) rfl rfl trivial ?_ ?_
 ·intro j hj _
  obtain ⟨x,hx,hm⟩:=get_of hj
  have hw:=wrap_succ (show j < 9223372036854775807 by omega)
  have kt:=enTwin_v hL (h x hm)
  unfold enrow at kt
  rw [take_snoc hx]
  have hlen:(o.l.take j).length≤j:=List.length_take_le ..
  generalize o.l.take j=A at *
  have hroom:(A.length+1)*32≤140737488355328:=by omega
  rw [accV_snoc,accB_snoc]
  unfold nilV
  by_cases hA:A=[]
  ·subst hA
   rw [accV_nil,accB_nil]
   refine Xf1 (Q5 hj (iN hj) hx @enrow_eq (Q3 hw @cells_nlv @isVal_nlv)) kt ?_
   exact qR_s [some 0,some 1,some 2,some 6] [] rfl (by simp only [Env.sh,List.map_cons,List.map_nil,hc];rfl) (sh_c (congrArg some (blk_ren (by simp [V.closed,closed_nlv]))) (sh_c rfl (sh_c rfl (sh_c (congrArg some (blk_ren (hce x))) sh_n)))) trivial
  ·rw [accV_cons hA,accB_cons hA]
   refine Xf1 (Q5 hj (iN hj) hx @enrow_eq (Q4 hw @cells_nlv @isVal_nlv hroom)) kt ?_
   exact qR_s [some 0,some 1,some 2,some 6] [] rfl (by simp only [Env.sh,List.map_cons,List.map_nil,hc];rfl) (sh_c (congrArg some (blk_ren (by simp [V.closed,closed_nlv]))) (sh_c rfl (sh_c rfl (sh_c (Eq.trans (congrArg (fun r=>some (Blk.ren _ (.arr 2 r))) (List.map_append (f:=enrow) (l₁:=A) (l₂:=[x])).symm) (congrArg some (ren_tl hce))) sh_n)))) trivial
 ·intro _
  rw [List.take_of_length_le (Nat.le_refl _)]
  refine Wn0 ?_
  by_cases hA:o.l=[]
  ·rw [hA]
   exact FnQ.ret rfl rfl
  ·have hz:nzq o.l=some o.l:=if_neg hA
   rw [accV_cons hA,accB_cons hA,hz,nlv_full hA]
   exact FnQ.frz [3] rfl (congrArg (fun v=>V.agg [v]) (frz_refS' (fz:=[3]) (src:=[]) hce (by decide) rfl rfl rfl))
end Go.Proofs.YtigdhgbkgfagiaaGreat
namespace Go.Proofs.YtigdhgbkgfagiaaGreat
def z3:Option Blk:=some (.arr 3 [[V.lst 0 [] (some 0),V.lst 0 [] (some 0),V.lst 0 [] (some 0)]])
section
variable {L:Lib} {l:List AI} {rs:List Rec} {ms:List Nat} {K:Env→Heap→Prop} {E:Env} {H:Heap} {d:Option Nat} {anc:List Nat}
theorem dops_stN {p x:AOpd} {a n j t:Nat} {rows:List (List V)} {row:List V} {v:V} (hp:opval L.G E.get p=some (.ptr a n j t)) (hx:opval L.G E.get x=some v) (hv1:v.cells=[v]) (hv2:v.isVal=true) (hH:H.get a=some (.arr n rows)) (hr:rows[j]?=some row) (ht:t+1≤row.length) (ha:Nat.blt a H.length=true)
    (hi:indB (ancM ms anc) { dst:=d,looks:=AI.looks ⟨d,.store 1 p x,none,anc⟩,v:=some (.tup []),need:=[a],eff:=[(a,some (.arr n (rows.set j (row.take t++[v]++row.drop (t+1)))))],slot:=H.length,k:=0 } 0 rs=true)
    (k:dopsP L l (rs++[{ dst:=d,looks:=AI.looks ⟨d,.store 1 p x,none,anc⟩,v:=some (.tup []),need:=[a],eff:=[(a,some (.arr n (rows.set j (row.take t++[v]++row.drop (t+1)))))],slot:=H.length,k:=0 }]) (ms++[ancM ms anc]) K (E.put d (.tup [])) (H.set a (some (.arr n (rows.set j (row.take t++[v]++row.drop (t+1))))))):dopsP L (⟨d,.store 1 p x,none,anc⟩::l) rs ms K E H:=
 dops_op (e:={ v:=.tup [],need:=[a],upd:=[(a,some (.arr n (rows.set j (row.take t++[v]++row.drop (t+1)))))] }) rfl rfl (by
  have hg:shG n H.get a=some (.arr n rows):=by
   show (H.get a).map _=_
   rw [hH]
   exact congrArg some shape_same
  show ((opval L.G E.get p).bind fun p'=>(opval L.G E.get x).bind fun x'=>storeV (shG (((opval L.G E.get p).map V.psz).getD 0) H.get) 1 p' x')=_
  rw [hp]
  show ((opval L.G E.get x).bind fun x'=>storeV (shG n H.get) 1 (.ptr a n j t) x')=_
  rw [hx]
  show storeV (shG n H.get) 1 (.ptr a n j t) v=_
  unfold storeV
  dsimp only
  rw [hg]
  dsimp only
  rw [if_pos ⟨rfl,by rw [hv1];rfl,hv2⟩,hr,Option.bind_some,if_pos ht,hv1]) (by simp only [List.all_cons,List.all_nil,ha,Bool.and_self]) (by simpa [Eff.all] using hi) (by simpa [Heap.app,Heap.upds,Eff.all] using k)
end
theorem env_sb {E E':Env} (h:∀p∈E',E.get p.1=some p.2):∀t v,E'.get t=some v→E.get t=some v:=by
 intro t v hv
 have:(t,v)∈E':=by
  clear h
  induction E' with
  | nil=>simp [Env.get] at hv
  | cons p r ih=>
   obtain ⟨k,w⟩:=p
   unfold Env.get at hv
   cases hk:(k == t) with
   | true=>
    rw [hk,cond_true] at hv
    cases hv
    have:k=t:=by simpa using hk
    subst this
    exact List.mem_cons_self
   | false=>
    rw [hk,cond_false] at hv
    exact List.mem_cons_of_mem _ (ih hv)
 exact h _ this
variable {L:Lib} (hL:L.T=tab.get)
include hL
theorem oqTwin_2 {el:Nl Int} {rd:Nl Dq} {ti:Nl Tq} (h4:ti.l.length≤4398046510976) (h5:∀t∈ti.l,okTq t) {v:V} {X:Heap} (hv:v=nlv tqrow 2 ti∧X=[]∧ti.l=[]∨∃m,ti=some m∧m≠[]∧v=.ref 2 2 0 m.length none∧X=[some (.arr 2 (m.map tqrow))]) :
    SWP L 0 T42.val.ntmps T42.val.body.r.r.r (FnQ T42.val 0 fun r' H'=>r'=V.agg [nlv mrow 1 el,nlv dqrow 6 rd,nlv tqrow 2 ti]∧H'=[]) [(1,V.ptr 0 3 0 0),(2,V.ptr 1 3 0 0)] (some (.arr 3 [[nlv mrow 1 el,nlv dqrow 6 rd,v]])::z3::X):=by
 unfold z3
 rcases hv with ⟨rfl,rfl,he⟩|⟨m,rfl,hme,rfl,rfl⟩
 ·refine Wf0 he ?_
  refine wRoll 1 rfl ?_
  refine Wf0 (Q2 he @List.length_nil.{0}) ?_
  exact FnQ.ret rfl (by simp [V.closed,V.closeds,closed_nlv])
 ·have hm:m.length≤4398046510976:=h4
  refine Wn0 ?_
  refine wCntH rfl 47 m.length (fun _=>[]) (fun _=>[some (.arr 3 [[nlv mrow 1 el,nlv dqrow 6 rd,.ref 2 2 0 m.length none]]),some (Blk.arr 3 [[V.lst 0 [] (some 0),V.lst 0 [] (some 0),V.lst 0 [] (some 0)]]),some (.arr 2 (m.map tqrow))]) (fun _=>True) rfl rfl trivial ?_ ?_
  ·intro j hj _
   obtain ⟨x,hx,hxm⟩:=get_of hj
   have hw:=wrap_succ (show j < 9223372036854775807 by omega)
   have kc:=clone_iv hL (o:=x.among) (by have:x.among.l.length≤_:=h5 x hxm;omega)
   have hs:(m.map tqrow).set j [nlv mrow 1 x.among,.int .i64 x.chosen]=m.map tqrow:=set_row hx rfl
   refine Wf1 (Q5 hj hx @tqrow_eq hw hs) kc ?_
   exact qR_n rfl rfl trivial
  ·intro _
   refine Wn0 ?_
   rw [nlv_full hme]
   refine FnQ.frz [2] rfl ?_
   show V.agg [V.ren _ (nlv mrow 1 el),V.ren _ (nlv dqrow 6 rd),V.ren _ (.ref 2 2 0 m.length none)]=_
   rw [ren_nlv,ren_nlv]
   exact congrArg (fun v=>V.agg [nlv mrow 1 el,nlv dqrow 6 rd,v]) (frz_refS' (fz:=[2]) (src:=[]) closed_tq (by decide) rfl rfl rfl)
theorem oqTwin_1 {el:Nl Int} {ti:Nl Tq} {l:List Dq} (hne:l≠[]) (hl:l.length≤1099511627744) (h3:∀d∈l,okDq d) (h4:ti.l.length≤4398046510976) (h5:∀t∈ti.l,okTq t) {v:V} {X:Heap} (hv:v=nlv tqrow 2 ti∧X=[]∧ti.l=[]∨∃m,ti=some m∧m≠[]∧v=.ref 3 2 0 m.length none∧X=[some (.arr 2 (m.map tqrow))]) :
    SWP L 0 T42.val.ntmps T42.val.body.r.r.l.r.l (qB T42.val.body.r.r.l.r.id (qN L 0 T42.val.ntmps T42.val.body.r.r.r (FnQ T42.val 0 fun r' H'=>r'=V.agg [nlv mrow 1 el,nlv dqrow 6 (some l),nlv tqrow 2 ti]∧H'=[]))) [(1,V.ptr 0 3 0 0),(2,V.ptr 1 3 0 0),(19,.ref 2 6 0 l.length none),(20,V.int .i64 l.length),(21,V.int .i64 0)] (some (.arr 3 [[nlv mrow 1 el,.ref 2 6 0 l.length none,v]])::z3::some (.arr 6 (l.map dqrow))::X):=by
 have hr:∀j,j < l.length→∃x,l[j]?=some x∧VFn L 85 [nlv rqrow 3 x.had] (nlv rqrow 3 x.had)∧VFn L 38 [.agg (rqrow x.lost)] (.agg (rqrow x.lost))∧VFn L 39 [nlv mrow 1 x.el] (nlv mrow 1 x.el)∧VFn L 39 [nlv mrow 1 x.out] (nlv mrow 1 x.out)∧(l.map dqrow).set j [nlv rqrow 3 x.had,.bool x.lost.neg,nlv nrow 1 x.lost.num,nlv nrow 1 x.lost.den,nlv mrow 1 x.el,nlv mrow 1 x.out]=l.map dqrow:=fun j hj=>by
  obtain ⟨x,hx,hm⟩:=get_of hj
  obtain ⟨g1,g2,g3,g4,g5⟩:=h3 x hm
  exact ⟨x,hx,ratios_v hL g1 g2,rqTwin_v hL g3,clone_iv hL (by have:x.el.l.length≤_:=g4;omega),clone_iv hL (by have:x.out.l.length≤_:=g5;omega),set_row hx rfl⟩
 unfold z3
 rcases hv with ⟨rfl,rfl,he⟩|⟨m,rfl,hme,rfl,rfl⟩
 ·refine wCnt rfl 21 l.length (fun _=>[]) (fun _=>True) rfl trivial ?_ ?_
  ·intro j hj _
   have hw:=wrap_succ (show j < 9223372036854775807 by omega)
   obtain ⟨x,hx,g1,g2,g3,g4,g5⟩:=hr j hj
   unfold rqrow at g2
   refine Wf4 (Q5 hj hx @dqrow_eq hw g5) g1 g2 g3 g4 ?_
   exact qR_s [some 0,some 1,some 2] [] rfl rfl (sh_c (congrArg some (by show Blk.arr 3 [[V.ren _ (nlv mrow 1 el),V.ren _ (.ref 2 6 0 l.length none),V.ren _ (nlv tqrow 2 ti)]]=_;rw [ren_nlv,ren_nlv];rfl)) (sh_c rfl (sh_c (congrArg some (ren_tl closed_dq)) sh_n))) trivial
  ·intro _
   have key:=oqTwin_2 hL (el:=el) (rd:=some l) h4 h5 (v:=nlv tqrow 2 ti) (X:=[]) (.inl ⟨rfl,rfl,he⟩)
   generalize hcc:T42.val.body.r.r.r=cc at key ⊢
   refine Wn0 ?_
   rw [if_pos (show T42.val.body.r.r.l.r.l.l.r.l.r.id=T42.val.body.r.r.l.r.id from rfl)]
   refine wShift [some 0,some 1] [2] (E1:=Env.sh _ _) rfl rfl (sh_c (congrArg some ?_) (sh_c rfl sh_n)) (SWP.forget (env_sb ?_) key)
   ·show Blk.arr 3 [[V.ren _ (nlv mrow 1 el),V.ren _ (.ref 2 6 0 l.length none),V.ren _ (nlv tqrow 2 ti)]]=_
    rw [ren_nlv,ren_nlv,nlv_full hne]
    exact congrArg (fun v=>Blk.arr 3 [[nlv mrow 1 el,v,nlv tqrow 2 ti]]) (frz_refS' (fz:=[2]) (src:=[some 0,some 1]) closed_dq (by decide) rfl rfl rfl)
   ·intro p hp
    simp only [List.mem_cons,List.not_mem_nil,or_false] at hp
    rcases hp with rfl|rfl <;> rfl
 ·refine wCnt rfl 21 l.length (fun _=>[]) (fun _=>True) rfl trivial ?_ ?_
  ·intro j hj _
   have hw:=wrap_succ (show j < 9223372036854775807 by omega)
   obtain ⟨x,hx,g1,g2,g3,g4,g5⟩:=hr j hj
   unfold rqrow at g2
   refine Wf4 (Q5 hj hx @dqrow_eq hw g5) g1 g2 g3 g4 ?_
   exact qR_s [some 0,some 1,some 2,some 3] [] rfl rfl (sh_c (congrArg some (by show Blk.arr 3 [[V.ren _ (nlv mrow 1 el),V.ren _ (.ref 2 6 0 l.length none),V.ren _ (.ref 3 2 0 m.length none)]]=_;rw [ren_nlv];rfl)) (sh_c rfl (sh_c (congrArg some (ren_tl closed_dq)) (sh_c (congrArg some (ren_tl closed_tq)) sh_n)))) trivial
  ·intro _
   have key:=oqTwin_2 hL (el:=el) (rd:=some l) h4 h5 (v:=.ref 2 2 0 m.length none) (X:=_) (.inr ⟨m,rfl,hme,rfl,rfl⟩)
   generalize hcc:T42.val.body.r.r.r=cc at key ⊢
   refine Wn0 ?_
   rw [if_pos (show T42.val.body.r.r.l.r.l.l.r.l.r.id=T42.val.body.r.r.l.r.id from rfl)]
   refine wShift [some 0,some 1,some 3] [2] (E1:=Env.sh _ _) rfl rfl (sh_c (congrArg some ?_) (sh_c rfl (sh_c (congrArg some (ren_tl closed_tq)) sh_n))) (SWP.forget (env_sb ?_) key)
   ·show Blk.arr 3 [[V.ren _ (nlv mrow 1 el),V.ren _ (.ref 2 6 0 l.length none),V.ren _ (.ref 3 2 0 m.length none)]]=_
    rw [ren_nlv,nlv_full hne]
    exact congrArg (fun v=>Blk.arr 3 [[nlv mrow 1 el,v,.ref 2 2 0 m.length none]]) (frz_refS' (fz:=[2]) (src:=[some 0,some 1,some 3]) closed_dq (by decide) rfl rfl rfl)
   ·intro p hp
    simp only [List.mem_cons,List.not_mem_nil,or_false] at hp
    rcases hp with rfl|rfl <;> rfl
theorem oqTwin_v {o:Oq} (h:okOq o):VFn L 42 [.agg (oqC o)] (.agg (oqC o)):=by
 obtain ⟨el,rd,ti⟩:=o
 obtain ⟨h1,⟨h2,h3⟩,h4,h5⟩:=h
 simp only at h1 h2 h3 h4 h5
 have k1:=clone_iv hL (o:=el) (by have:el.l.length≤_:=h1;omega)
 refine VFn.start (F:=T42.1) (by rw [hL];rfl) rfl (by simp [V.closeds,V.closed,closed_nlv,oqC]) (by simp [V.closed,V.closeds,closed_nlv,oqC]) ?_
 unfold oqC
 dsimp only
 have hE:∀(E:Env) (a b:V),E.get 1=some a→E.get 2=some b→∀p∈[(1,a),(2,b)],E.get p.1=some p.2:=fun E a b ha hb p hp=>by
  simp only [List.mem_cons,List.not_mem_nil,or_false] at hp
  rcases hp with rfl|rfl
  ·exact ha
  ·exact hb
 rcases nl_case rd with hr|⟨l,rfl,hne⟩ <;> rcases nl_case ti with ht|⟨m,rfl,hme⟩
 ·have key:=oqTwin_2 hL (el:=el) (rd:=rd) h4 h5 (v:=nlv tqrow 2 ti) (X:=[]) (.inl ⟨rfl,rfl,ht⟩)
  refine Wn3 k1 (clone_dqv hL (o:=rd) (by omega)) (clone_tqv hL (o:=ti) (by omega)) ?_
  generalize hcc:T42.val.body.r.r.r=cc at key ⊢
  refine wRoll 1 rfl ?_
  refine Wf0 (Q2 hr @List.length_nil.{0}) ?_
  rw [if_pos (show T42.val.body.r.r.l.r.l.l.r.l.r.id=T42.val.body.r.r.l.r.id from rfl)]
  exact SWP.forget (env_sb (hE _ _ _ rfl rfl)) key
 ·have hml:m.length≤4398046510976:=h4
  have key:=oqTwin_2 hL (el:=el) (rd:=rd) h4 h5 (v:=.ref 2 2 0 m.length none) (.inr ⟨m,rfl,hme,rfl,rfl⟩)
  have c1:chM tqrow 2 (some m)=[some (.arr 2 (m.map tqrow))]:=rfl
  have c2:∀σ,Blk.ren σ (.arr 2 (m.map tqrow))=.arr 2 (m.map tqrow):=fun σ=>ren_tl closed_tq
  (repeat' (first|refine Z0 ?_|refine wOpsM [84] rfl ?_|refine wDrawM [84] rfl rfl ?_|refine opsV_call rfl rfl (k1) ?_|refine opsV_call rfl rfl (clone_dqv hL (o:=rd) (by omega)) ?_|refine opsV_make rfl rfl (clone_tq hL (o:=some m) (by show m.length*32≤_;omega)) ?_|simp only [seval,push_cast,↓reduceIte,↓bP_some,↓aP_true,reduceCtorEq,cvM_full hme,ren_up_ref,c1,c2,List.map_cons,List.map_nil,Option.map_some,List.length_cons,List.length_nil]))
  generalize hcc:T42.val.body.r.r.r=cc at key ⊢
  refine wRoll 1 rfl ?_
  refine Wf0 (Q2 hr @List.length_nil.{0}) ?_
  rw [if_pos (show T42.val.body.r.r.l.r.l.l.r.l.r.id=T42.val.body.r.r.l.r.id from rfl)]
  exact SWP.forget (env_sb (hE _ _ _ rfl rfl)) key
 ·have hll:l.length≤1099511627744:=h2
  have c1:chM dqrow 6 (some l)=[some (.arr 6 (l.map dqrow))]:=rfl
  have c2:∀σ,Blk.ren σ (.arr 6 (l.map dqrow))=.arr 6 (l.map dqrow):=fun σ=>ren_tl closed_dq
  (repeat' (first|refine Z0 ?_|refine Z1 ?_|simp only [seval,push_cast,↓reduceIte,↓bP_some,↓aP_true,reduceCtorEq]))
  refine wDrawD rfl ?_
  refine dops_op rfl rfl rfl rfl (by kernel_rfl) ?_;refine dops_op rfl rfl rfl rfl (by kernel_rfl) ?_
  refine dops_call rfl rfl rfl k1 (by kernel_rfl) ?_
  refine dops_op rfl rfl rfl rfl (by kernel_rfl) ?_;refine dops_op rfl rfl rfl rfl (by kernel_rfl) ?_
  simp only [seval,push_cast,↓reduceIte,↓bP_some,↓aP_true,reduceCtorEq,happ_eq,upds_nil,upds_cons,List.map_nil,List.append_nil]
  refine dops_make rfl rfl rfl (clone_dq hL (o:=some l) (by show l.length*128≤_;omega)) (by kernel_rfl) ?_
  simp only [seval,push_cast,↓reduceIte,↓bP_some,↓aP_true,reduceCtorEq,happ_eq,upds_nil,upds_cons,List.map_nil,List.append_nil,cvM_full hne,ren_up_ref,c1,c2,List.map_cons,List.map_nil,Option.map_some,List.length_cons,List.length_nil,List.cons_append,List.nil_append]
  refine dops_op rfl rfl rfl rfl (by kernel_rfl) ?_;refine dops_op rfl rfl rfl rfl (by kernel_rfl) ?_
  refine dops_call rfl rfl rfl (clone_tqv hL (o:=ti) (by omega)) (by kernel_rfl) ?_
  simp only [seval,push_cast,↓reduceIte,↓bP_some,↓aP_true,reduceCtorEq,happ_eq,upds_nil,upds_cons,List.map_nil,List.append_nil]
  refine dops_op rfl rfl rfl rfl (by kernel_rfl) ?_
  refine dops_stN (j:=0) (a:=0) rfl rfl cells_nlv isVal_nlv rfl rfl (Nat.le_of_ble_eq_true rfl) rfl (by kernel_rfl) ?_
  simp only [seval,push_cast,↓reduceIte,↓bP_some,↓aP_true,reduceCtorEq,happ_eq,upds_nil,upds_cons,List.map_nil,List.append_nil]
  refine dops_op rfl rfl rfl rfl (by kernel_rfl) ?_;refine dops_op rfl rfl rfl rfl (by kernel_rfl) ?_;refine dops_op rfl rfl rfl rfl (by kernel_rfl) ?_
  simp only [seval,push_cast,↓reduceIte,↓bP_some,↓aP_true,reduceCtorEq,happ_eq,upds_nil,upds_cons,List.map_nil,List.append_nil]
  refine dops_stN (j:=0) (a:=0) rfl rfl cells_nlv isVal_nlv rfl rfl (Nat.le_of_ble_eq_true rfl) rfl (by kernel_rfl) ?_
  simp only [seval,push_cast,↓reduceIte,↓bP_some,↓aP_true,reduceCtorEq,happ_eq,upds_nil,upds_cons,List.map_nil,List.append_nil]
  refine dops_nil ?_
  simp only [seval,push_cast,↓reduceIte,↓bP_some,↓aP_true,reduceCtorEq,happ_eq,upds_nil,upds_cons,List.map_nil,List.append_nil]
  refine Wn0 ?_
  exact oqTwin_1 hL (el:=el) (ti:=ti) hne h2 h3 h4 h5 (v:=nlv tqrow 2 ti) (X:=[]) (.inl ⟨rfl,rfl,ht⟩)
 ·have hml:m.length≤4398046510976:=h4
  have hll:l.length≤1099511627744:=h2
  have c1:chM dqrow 6 (some l)=[some (.arr 6 (l.map dqrow))]:=rfl
  have c2:∀σ,Blk.ren σ (.arr 6 (l.map dqrow))=.arr 6 (l.map dqrow):=fun σ=>ren_tl closed_dq
  have c3:chM tqrow 2 (some m)=[some (.arr 2 (m.map tqrow))]:=rfl
  have c4:∀σ,Blk.ren σ (.arr 2 (m.map tqrow))=.arr 2 (m.map tqrow):=fun σ=>ren_tl closed_tq
  (repeat' (first|refine Z0 ?_|refine Z1 ?_|simp only [seval,push_cast,↓reduceIte,↓bP_some,↓aP_true,reduceCtorEq]))
  refine wDrawD rfl ?_
  refine dops_op rfl rfl rfl rfl (by kernel_rfl) ?_;refine dops_op rfl rfl rfl rfl (by kernel_rfl) ?_
  refine dops_call rfl rfl rfl k1 (by kernel_rfl) ?_
  refine dops_op rfl rfl rfl rfl (by kernel_rfl) ?_;refine dops_op rfl rfl rfl rfl (by kernel_rfl) ?_
  simp only [seval,push_cast,↓reduceIte,↓bP_some,↓aP_true,reduceCtorEq,happ_eq,upds_nil,upds_cons,List.map_nil,List.append_nil]
  refine dops_make rfl rfl rfl (clone_dq hL (o:=some l) (by show l.length*128≤_;omega)) (by kernel_rfl) ?_
  simp only [seval,push_cast,↓reduceIte,↓bP_some,↓aP_true,reduceCtorEq,happ_eq,upds_nil,upds_cons,List.map_nil,List.append_nil,cvM_full hne,ren_up_ref,c1,c2,List.map_cons,List.map_nil,Option.map_some,List.length_cons,List.length_nil,List.cons_append,List.nil_append]
  refine dops_op rfl rfl rfl rfl (by kernel_rfl) ?_;refine dops_op rfl rfl rfl rfl (by kernel_rfl) ?_
  refine dops_make rfl rfl rfl (clone_tq hL (o:=some m) (by show m.length*32≤_;omega)) (by kernel_rfl) ?_
  simp only [seval,push_cast,↓reduceIte,↓bP_some,↓aP_true,reduceCtorEq,happ_eq,upds_nil,upds_cons,List.map_nil,List.append_nil,cvM_full hme,ren_up_ref,c3,c4,List.map_cons,List.map_nil,Option.map_some,List.length_cons,List.length_nil,List.cons_append,List.nil_append]
  refine dops_op rfl rfl rfl rfl (by kernel_rfl) ?_
  refine dops_stN (j:=0) (a:=0) rfl rfl cells_nlv isVal_nlv rfl rfl (Nat.le_of_ble_eq_true rfl) rfl (by kernel_rfl) ?_
  simp only [seval,push_cast,↓reduceIte,↓bP_some,↓aP_true,reduceCtorEq,happ_eq,upds_nil,upds_cons,List.map_nil,List.append_nil]
  refine dops_op rfl rfl rfl rfl (by kernel_rfl) ?_;refine dops_op rfl rfl rfl rfl (by kernel_rfl) ?_;refine dops_op rfl rfl rfl rfl (by kernel_rfl) ?_;refine dops_op rfl rfl rfl rfl (by kernel_rfl) ?_
  refine dops_nil ?_
  simp only [seval,push_cast,↓reduceIte,↓bP_some,↓aP_true,reduceCtorEq,happ_eq,upds_nil,upds_cons,List.map_nil,List.append_nil,cvM_full hme,ren_up_ref,c3,c4,List.map_cons,List.map_nil,Option.map_some,List.length_cons,List.length_nil,List.cons_append,List.nil_append]
  refine Wn0 ?_
  exact oqTwin_1 hL (el:=el) (ti:=some m) hne h2 h3 h4 h5 (v:=.ref 3 2 0 m.length none) (.inr ⟨m,rfl,hme,rfl,rfl⟩)
end Go.Proofs.YtigdhgbkgfagiaaGreat
namespace Go.Proofs.YtigdhgbkgfagiaaGreat
theorem elC_eq (x:El):elC x=V.str x.t.name::nlv srow 1 x.t.cands::.int .i64 x.t.seats::.int .u8 x.t.rule::.int .u8 x.t.lo::.int .u8 x.t.hi::.int .i64 x.t.skips::.bool x.t.dneg::nlv nrow 1 x.t.dnum::nlv nrow 1 x.t.dden::.bool x.t.lneg::nlv nrow 1 x.t.lnum::nlv nrow 1 x.t.lden::nlv mrow 1 x.t.rounds::.int .u8 x.stage::nlv vtrow 3 x.roll::nlv hbrow 2 x.recs::.int .u8 (x.seed 0)::.int .u8 (x.seed 1)::.int .u8 (x.seed 2)::.int .u8 (x.seed 3)::.int .u8 (x.seed 4)::.int .u8 (x.seed 5)::.int .u8 (x.seed 6)::.int .u8 (x.seed 7)::.int .u8 (x.seed 8)::.int .u8 (x.seed 9)::.int .u8 (x.seed 10)::.int .u8 (x.seed 11)::.int .u8 (x.seed 12)::.int .u8 (x.seed 13)::.int .u8 (x.seed 14)::.int .u8 (x.seed 15)::.int .u8 (x.seed 16)::.int .u8 (x.seed 17)::.int .u8 (x.seed 18)::.int .u8 (x.seed 19)::.int .u8 (x.seed 20)::.int .u8 (x.seed 21)::.int .u8 (x.seed 22)::.int .u8 (x.seed 23)::.int .u8 (x.seed 24)::.int .u8 (x.seed 25)::.int .u8 (x.seed 26)::.int .u8 (x.seed 27)::.int .u8 (x.seed 28)::.int .u8 (x.seed 29)::.int .u8 (x.seed 30)::.int .u8 (x.seed 31)::nlv mrow 1 x.lot::nlv mrow 1 x.o.el::nlv dqrow 6 x.o.rounds::nlv tqrow 2 x.o.ties::nlv enrow 2 x.board::[]:=rfl
def El.nz (x:El):El:={ x with board:=nzq x.board.l }
def zTm:Tm:=⟨[],none,0,0,0,0,0,false,none,none,false,none,none,none⟩
def elB (t:Tm) (n:Int):El:=⟨t,n,none,none,fun _=>0,none,⟨none,none,none⟩,none⟩
def begE (t:Tm):El:=if okTerms t then elB t 1 else elB zTm 0
def begI (t:Tm):Int:=if okTerms t then 0 else 8
theorem closed_el (x:El):V.closed (.agg (elC x))=true:=by
 rw [elC_eq];simp [V.closed,V.closeds,closed_nlv]
theorem closed_el2 (x:El) (n:Int):V.closed (.tup [.agg (elC x),.int .i64 n])=true:=by
 rw [elC_eq];simp [V.closed,V.closeds,closed_nlv]
theorem okEl_B {t:Tm} (ht:okTm t) (n:Int):okEl (elB t n):=⟨ht,Nat.zero_le _,⟨Nat.zero_le _,fun _ h=>by cases h⟩,Nat.zero_le _,⟨Nat.zero_le _,⟨Nat.zero_le _,fun _ h=>by cases h⟩,Nat.zero_le _,fun _ h=>by cases h⟩,Nat.zero_le _,fun _ h=>by cases h⟩
variable {L:Lib} (hL:L.T=tab.get)
include hL
theorem ctTwin2_v {name:List UInt8} {o:Nl (List UInt8)} {seats rule:Int} (hl:o.l.length≤8796093022208):VFn L 37 [.agg [.str name,nlv srow 1 o,.int .i64 seats,.int .u8 rule]] (.agg [.str name,nlv srow 1 o,.int .i64 seats,.int .u8 rule]):=by
 refine VFn.start (F:=T37.1) (by rw [hL];rfl) rfl (by simp [V.closeds,V.closed,closed_nlv]) (by simp [V.closed,V.closeds,closed_nlv]) ?_
 refine Wn1 (clone_sv hL (o:=o) (by omega)) ?_
 exact FnQ.ret rfl (by simp [V.closed,V.closeds,closed_nlv])
theorem elTwin_v {x:El} (h:okEl x):VFn L 13 [.agg (elC x)] (.agg (elC x.nz)):=by
 have ht:=h.t
 have h1:=ht.dnum;have h2:=ht.dden;have h3:=ht.lnum;have h4:=ht.lden;have h5:=ht.rounds
 have k1:=ctTwin2_v hL (name:=x.t.name) (seats:=x.t.seats) (rule:=x.t.rule) ht.cands
 have k2:=rqTwin_v hL (r:=x.t.d) ⟨h1,h2⟩
 have k3:=rqTwin_v hL (r:=x.t.m) ⟨h3,h4⟩
 have k4:=clone_iv hL (o:=x.t.rounds) (by omega)
 have k5:=clone_vtv hL (o:=x.roll) (by have:=h.roll;omega)
 have k6:=recTwin_v hL h.recs.1 h.recs.2
 have k7:=clone_iv hL (o:=x.lot) (by have:x.lot.l.length≤_:=h.lot;omega)
 have k8:=oqTwin_v hL h.o
 have k9:=boTwin_v hL h.board.1 h.board.2
 have hc:=closed_el x
 have hc':=closed_el x.nz
 unfold rqrow Tm.d at k2
 unfold rqrow Tm.m at k3
 unfold oqC at k8
 rw [elC_eq] at hc hc' ⊢
 rw [elC_eq]
 refine VFn.start (F:=T13.1) (by rw [hL];rfl) rfl (by rw [V.closeds,hc];rfl) hc' ?_
 unfold El.nz
 dsimp only
 refine Wn8 k1 k2 k3 k4 k5 k6 k7 k8 ?_
 refine Wn1 k9 ?_
 exact FnQ.ret rfl hc'
theorem begin2_v {t:Tm} (ht:okTm t):VFn L 9 [.agg (tmC t)] (.tup [.agg (elC (begE t)),.int .i64 (begI t)]):=by
 have kt:=terms_v hL ht
 have ke:=elTwin_v hL (okEl_B ht 1)
 have hc:=closed_el2 (begE t) (begI t)
 refine VFn.start (F:=T9.1) (by rw [hL];rfl) rfl (by simp [V.closeds,V.closed,closed_nlv,tmC]) hc ?_
 unfold begE begI at *
 generalize okTerms t=b at *
 cases b with
 | true=>
  rw [if_pos rfl,if_pos rfl] at hc ⊢
  rw [show (elB t 1).nz=elB t 1 from rfl] at ke
  rw [elC_eq] at ke hc ⊢
  unfold elB tmC at *
  dsimp only at *
  refine Wn2 kt ke ?_
  exact FnQ.ret rfl hc
 | false=>
  rw [if_neg (by simp),if_neg (by simp)] at hc ⊢
  rw [elC_eq] at hc ⊢
  unfold elB zTm tmC at *
  dsimp only at *
  refine Wn1 kt ?_
  exact FnQ.ret rfl hc
theorem beginR_v {t:Tm} (ht:okTm t) (hnm:t.name.length < 4611686018427387904) (hcs:∀x∈t.cands.l,x.length < 4611686018427387904):VFn L 10 [.agg (tmC t)] (.tup [.agg (elC (begE t)),.int .i64 (begI t)]):=by
 have kt:=mayT_v hL ht hnm hcs
 have hc:=closed_el2 (begE t) (begI t)
 refine VFn.start (F:=T10.1) (by rw [hL];rfl) rfl (by simp [V.closeds,V.closed,closed_nlv,tmC]) hc ?_
 unfold begE begI at *
 generalize okTerms t=b at *
 cases b with
 | true=>
  rw [if_pos rfl,if_pos rfl] at hc ⊢
  rw [elC_eq] at hc ⊢
  unfold elB tmC at *
  dsimp only at *
  refine Wn1 kt ?_
  exact FnQ.ret rfl hc
 | false=>
  rw [if_neg (by simp),if_neg (by simp)] at hc ⊢
  rw [elC_eq] at hc ⊢
  unfold elB zTm tmC at *
  dsimp only at *
  refine Wn1 kt ?_
  exact FnQ.ret rfl hc
end Go.Proofs.YtigdhgbkgfagiaaGreat
