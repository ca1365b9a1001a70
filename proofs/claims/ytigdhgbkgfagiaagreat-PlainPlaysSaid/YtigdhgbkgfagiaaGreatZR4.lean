/- The model, by the reference: a vote cast, walked whole. · The model, by the reference: a deed played, walked. -/
import Derived.Test.YtigdhgbkgfagiaaGreatZM1
import Derived.Test.YtigdhgbkgfagiaaGreatZM2
import Derived.Test.YtigdhgbkgfagiaaGreatZR3
set_option maxRecDepth 100000
set_option maxHeartbeats 4000000
set_option linter.unusedVariables false
set_option linter.unusedSimpArgs false
namespace Go.Proofs.YtigdhgbkgfagiaaGreat
theorem env_sub {E E':Env} (h:∀p∈E',E.get p.1=some p.2):∀t v,E'.get t=some v→E.get t=some v:=by
 intro t v hv
 have:(t,v)∈E':=by
  clear h
  induction E' with
  | nil=>simp [Env.get] at hv
  | cons p r ih=>
   obtain ⟨k,w⟩:=p
   unfold Env.get at hv
   cases hk:(k == t) with
   | true=>
    rw [hk,cond_true] at hv
    cases hv
    have:k=t:=by simpa using hk
    subst this
    exact List.mem_cons_self
   | false=>
    rw [hk,cond_false] at hv
    exact List.mem_cons_of_mem _ (ih hv)
 exact h _ this
theorem frz_snoc {α:Type} {f:α→List V} {n a:Nat} {H:Heap} {src:List (Option Nat)} {fz:List Nat} {l:List α} {x:α} (hf:∀x,(f x).all V.closed=true) (hn:0 < n) (hp:posIn src a 0=none) (ha:fz.contains a=true) (h:H.get a=some (.arr n ((l++[x]).map f))):V.ren (sgOf H src fz) (.ref a n 0 (l.length+1) none)=lsV f n (l++[x]):=by
 rw [lsV_snoc]
 have:=frz_refS' (l:=l++[x]) (c:=none) hf hn hp ha h
 rw [List.length_append] at this
 exact this
theorem two_eq {A B u u' v v':V} (h1:u=u') (h2:v=v'):Blk.arr 5 [[V.int .i64 1,A,u,v,B]]=Blk.arr 5 [[V.int .i64 1,A,u',v',B]]:=by rw [h1,h2]
structure RsOk (s:Rs):Prop where
 len:s.si.length=s.na.length
 nn:∀x∈s.si,0≤x
 pe:s.pe.length≤64
 na:s.na.length≤16
 bal:s.bal.length≤1000
def castR (t:Tm) (s:Rs) (d:Dd):Rs×Bool:=
 if s.ph≠1∨findG (fun x=>x.1 == d.name) s.pe 0 < 0∨(s.pe[(findG (fun x=>x.1 == d.name) s.pe 0).toNat]?.getD ([],0)).2≠2∨namedS d.batch=false then (s,false)
 else if (readD t d).2≠0∨0 < (readD t d).1.db.length then (s,false)
 else if findG (fun x=>x == d.batch) s.na 0 < 0 then
  (if 16≤s.na.length then (s,false) else castG { s with na:=s.na++[d.batch],si:=s.si++[0] } (findG (fun x=>x.1 == d.name) s.pe 0).toNat s.na.length ((readD t d).1.kind,(readD t d).1.ms))
 else castG s (findG (fun x=>x.1 == d.name) s.pe 0).toNat (findG (fun x=>x == d.batch) s.na 0).toNat ((readD t d).1.kind,(readD t d).1.ms)
theorem closed_rsV (s:Rs) (b:Bool):V.closed (.tup [.agg (rsC s),.bool b])=true:=by
 simp [rsC,V.closed,V.closeds,closed_lsV]
variable {L:Lib} (hL:L.T=tab.get)
include hL
theorem castR_v {t:Tm} {s:Rs} {d:Dd} (hs:RsOk s) (ht:okTm t) (hd:okDd d) (hnm:t.name.length < 4611686018427387904) (hcs:∀x∈t.cands.l,x.length < 4611686018427387904) :
   VFn L 115 [.agg (tmC t),.agg (rsC s),.agg (ddrow d)] (.tup [.agg (rsC (castR t s d).1),.bool (castR t s d).2]):=by
 have kr:VFn L 148 [.agg [.str t.name,nlv srow 1 t.cands,.int .i64 t.seats,.int .u8 t.rule],.agg [.int .u8 t.lo,.int .u8 t.hi,.int .i64 t.skips],.agg [nlv urow 1 d.boxes],nlv drow 2 d.decs] (.tup [.agg (rgL (readD t d).1),.int .i64 (readD t d).2]):=by
  obtain ⟨s1,c1,e1,h1⟩:=nlv_tl (f:=srow) (n:=1) (o:=t.cands)
  obtain ⟨s2,c2,e2,h2⟩:=nlv_tl (f:=urow) (n:=1) (o:=d.boxes)
  obtain ⟨s3,c3,e3,h3⟩:=nlv_tl (f:=drow) (n:=2) (o:=d.decs)
  have:=readR_v hL (c:=t.ct) (s:=s1) (k:=c1) (lo:=t.lo) (hi:=t.hi) (skips:=t.skips) (s':=s2) (B:=d.boxes.l) (k':=c2) (s2:=s3) (ds:=d.decs.l) (k2:=c3) h1 ht.rule hnm hcs h2 hd.boxes h3 hd.decs
  rw [←read_same] at this
  rw [e1,e2,e3]
  exact this
 obtain ⟨s1,c1,e1,f1⟩:=lsV_tl prow 2 s.pe
 have kf:=findR_v hL (c:=c1) (y:=d.name) f1 (by have:=hs.pe;omega)
 rw [←e1] at kf
 obtain ⟨s2,c2,e2,f2⟩:=lsV_tl srow 1 s.na
 have kb:=batchR_v hL (c:=c2) (y:=d.batch) f2 (by have:=hs.na;omega)
 rw [←e2] at kb
 have kn:=nameR_v hL (s:=d.batch) hd.batch
 have hfs:=findG_spec (p:=fun x=>x.1 == d.name) s.pe 0
 have hbs:=findG_spec (p:=fun x=>x == d.batch) s.na 0
 unfold castR
 generalize readD t d=R at *
 obtain ⟨⟨kd,ms,ov,db⟩,e⟩:=R
 unfold rgL at kr
 dsimp only at kr ⊢
 have dq:=lenQ_lsV (f:=mrow) (n:=1) (l:=db)
 have dcl:(lsV mrow 1 db).closed=true:=closed_lsV
 have dc:=cells_lsV (f:=mrow) (n:=1) (l:=db)
 have dv:=isVal_lsV (f:=mrow) (n:=1) (l:=db)
 have rc:=cells_lsV (f:=mrow) (n:=1) (l:=ms)
 have rv:=isVal_lsV (f:=mrow) (n:=1) (l:=ms)
 refine VFn.start (F:=T115.1) (by rw [hL];rfl) rfl (by simp [V.closeds,V.closed,closed_lsV,closed_nlv,tmC,rsC,ddrow]) (closed_rsV _ _) ?_
 generalize findG (fun x=>x.1 == d.name) s.pe 0=I at *
 obtain ⟨hs1,hs2,hs3,hs4,hs5⟩:=hs
 by_cases h1:s.ph≠1
 ·rw [if_pos (.inl h1)]
  unfold tmC rsC ddrow
  refine Wf1 (Q3 h1 @cells_lsV @isVal_lsV) kf ?_
  exact FnQ.ret rfl (closed_rsV _ _)
 ·have h1':s.ph=1:=Decidable.not_not.1 h1
  rcases hfs with ⟨rfl,-⟩|⟨i,p,hI,hp,-,-⟩
  ·rw [if_pos (.inr (.inl (by decide)))]
   unfold tmC rsC ddrow
   refine Wf1 (Q3 h1' @cells_lsV @isVal_lsV) kf ?_
   exact FnQ.ret rfl (by have:=closed_rsV s false;unfold rsC at this;rw [h1'] at this;exact this)
  ·obtain rfl:I=(i:Int):=by omega
   have hip:i < s.pe.length:=(List.getElem?_eq_some_iff.1 hp).1
   have hia:=iaQ_lsV (f:=prow) (n:=2) hip
   have hi0:¬(i:Int) < 0:=by omega
   rw [Int.toNat_natCast,hp,Option.getD_some]
   by_cases h2:p.2≠2
   ·rw [if_pos (.inr (.inr (.inl h2)))]
    unfold tmC rsC ddrow
    have d2:decide (p.2≠2)=true:=decide_eq_true h2
    refine Wf1 (Q5 h1' hi0 hia hp (Q4 @prow_eq h2 @cells_lsV @isVal_lsV)) kf ?_
    exact FnQ.ret rfl (by have:=closed_rsV s false;unfold rsC at this;rw [h1'] at this;exact this)
   ·have h2':p.2=2:=Decidable.not_not.1 h2
    obtain ⟨pn,ps⟩:=p
    simp only at h2'
    subst h2'
    have hne:¬((2:Int)≠2):=fun h=>h rfl
    have hret:=closed_rsV s false
    unfold rsC at hret
    rw [h1'] at hret
    cases hN:namedS d.batch with
    | false=>
     rw [hN] at kn
     rw [if_pos (.inr (.inr (.inr rfl)))]
     unfold tmC rsC ddrow
     refine Xf2 (Q5 h1' hi0 hia hp (Q3 @prow_eq @cells_lsV @isVal_lsV)) kf kn ?_
     exact FnQ.ret rfl hret
    | true=>
     rw [hN] at kn
     rw [if_neg (by simp [h1',hi0])]
     by_cases h3:e≠0
     ·rw [if_pos (.inl h3)]
      unfold tmC rsC ddrow
      refine Xf3 (Q5 h1' hi0 hia hp (Q4 @prow_eq @cells_lsV @isVal_lsV h3)) kf kn kr ?_
      exact FnQ.ret rfl hret
     ·obtain rfl:e=0:=Decidable.not_not.1 h3
      by_cases h4:0 < db.length
      ·rw [if_pos (.inr h4)]
       unfold tmC rsC ddrow
       refine Xf3 (Q5 h1' hi0 hia hp (Q5 @prow_eq @cells_lsV @isVal_lsV dq (show (0:Int) < db.length by omega))) kf kn kr ?_
       exact FnQ.ret rfl hret
      ·rw [if_neg (by simp;exact List.length_eq_zero_iff.1 (by omega))]
       have h4':¬(0:Int) < db.length:=by omega
       generalize hdbv:lsV mrow 1 db=dbv at *
       have hK:∀(k:Nat),findG (fun x=>x == d.batch) s.na 0=(k:Int)→∀v,s.si[k]?=some v→SWP L 0 T115.val.ntmps T115.val.body.r.r.r.r.r.r.r (FnQ T115.val 0 fun r' H'=>r'=V.tup [.agg (rsC (castG s i k (kd,ms)).1),.bool (castG s i k (kd,ms)).2]∧H'=[]) [(4,.ptr 0 5 0 0),(6,.ptr 1 5 0 0),(8,.int .i64 i),(9,.ptr 2 4 0 0),(11,.int .i64 k)] [some (.arr 5 [rsC s]),some (.arr 5 [[.int .i64 0,.lst 0 [] (some 0),.lst 0 [] (some 0),.lst 0 [] (some 0),.lst 0 [] (some 0)]]),some (.arr 4 [[.int .u8 kd,lsV mrow 1 ms,.int .i64 ov,dbv]])]:=fun k _ v hv=>
        castC hL hp hv (hs2 v (List.mem_of_getElem? hv)) (by omega) (by omega) (by omega) dcl
       rcases hbs with ⟨hkn,hkall⟩|⟨k,x,hkn,hkx,-,-⟩
       ·rw [hkn,if_pos (by decide)]
        rw [hkn] at kb
        by_cases h5:16≤s.na.length
        ·rw [if_pos h5]
         unfold tmC rsC ddrow
         refine Xf4 (Q5 h1' hi0 hia hp (Q5 @prow_eq @cells_lsV @isVal_lsV dq (Q5 h4' dc dv @lenQ_lsV (show (16:Int)≤s.na.length by omega)))) kf kn kr kb ?_
         exact FnQ.ret rfl hret
        ·rw [if_neg h5]
         have key:=castC hL (s:={ s with na:=s.na++[d.batch],si:=s.si++[0] }) (i:=i) (k:=s.na.length) (kd:=kd) (ms:=ms) (ov:=(ov:Int)) (db:=dbv) (v:=0) hp (by rw [←hs1];simp) (Int.le_refl _) (show s.pe.length≤1000 by omega) (by simp;omega) (show s.bal.length≤1000 by omega) dcl
         generalize (castG { s with na:=s.na++[d.batch],si:=s.si++[0] } i s.na.length (kd,ms))=RES at *
         unfold tmC ddrow
         simp only [show rsC { s with na:=s.na++[d.batch],si:=s.si++[0] }=[.int .i64 s.ph,lsV prow 2 s.pe,lsV srow 1 (s.na++[d.batch]),lsV mrow 1 (s.si++[0]),lsV vrowL 2 s.bal] from rfl] at key
         rw [show rsC s=[.int .i64 s.ph,lsV prow 2 s.pe,lsV srow 1 s.na,lsV mrow 1 s.si,lsV vrowL 2 s.bal] from rfl]
         refine Xf3 (Q5 h1' hi0 hia hp (Q5 @prow_eq @cells_lsV @isVal_lsV dq (Q3 h4' dc dv))) kf kn kr ?_
         simp only [h1'] at key
         refine opsP_call rfl kb ?_
         simp only [seval,push_cast,↓reduceIte,↓bP_some,↓aP_true,reduceCtorEq]
         refine wSeq rfl ?_
         generalize hcc:T115.val.body.r.r.r.r.r.r.r=cc at key ⊢
         refine Wf0 (Q2 @lenQ_lsV (show ¬(16:Int)≤s.na.length by omega)) ?_
         refine wDrawD rfl ?_
         refine dops_op rfl rfl rfl rfl (by kernel_rfl) ?_;refine dops_op rfl rfl rfl rfl (by kernel_rfl) ?_;refine dops_op rfl rfl rfl rfl (by kernel_rfl) ?_
         simp only [seval,push_cast,↓reduceIte,↓bP_some,↓aP_true,reduceCtorEq,happ_eq,upds_nil,upds_cons,List.map_nil,List.append_nil]
         have hw1:IntKind.i64.wrap ((s.na.length:Int)+1 - 1)=s.na.length:=by rw [show (s.na.length:Int)+1 - 1=s.na.length by omega];exact wrap_nat (by omega)
         by_cases hna:s.na=[]
         ·have hsi:s.si=[]:=List.length_eq_zero_iff.1 (by rw [hs1,hna];rfl)
          simp only [hna,hsi] at key ⊢
          refine dops_op rfl rfl rfl rfl (by kernel_rfl) ?_;refine dops_op rfl rfl rfl rfl (by kernel_rfl) ?_;refine dops_op rfl rfl rfl rfl (by kernel_rfl) ?_;refine dops_op rfl rfl rfl rfl (by kernel_rfl) ?_
          simp only [seval,push_cast,↓reduceIte,↓bP_some,↓aP_true,reduceCtorEq,happ_eq,upds_nil,upds_cons,List.map_nil,List.append_nil]
          refine dops_op rfl rfl rfl rfl (by kernel_rfl) ?_;refine dops_op rfl rfl rfl rfl (by kernel_rfl) ?_;refine dops_op rfl rfl rfl rfl (by kernel_rfl) ?_
          refine dops_nil ?_
          (repeat' (first|refine Z0 ?_|refine Z1 ?_|refine Z2 ?_|simp only [seval,push_cast,↓reduceIte,↓bP_some,↓aP_true,reduceCtorEq,happ_eq,upds_nil,upds_cons,List.map_nil,List.append_nil,cells_lsV,isVal_lsV,show lsV mrow 1 ([]:List Int)=.lst 0 [] (some 0) from rfl,show over ([]:List (List V)) 0 []=[] from rfl,List.length_nil,Nat.le_refl,show IntKind.i64.wrap 0=0 from rfl]))
          refine wShift [some 1,some 3,some 4] [7,10] rfl rfl ?_ key
          refine sh_c (congrArg some ?_) (sh_c rfl (sh_c (congrArg some (blk_ren (by simp [V.closed,closed_lsV,dcl]))) sh_n))
          show Blk.arr 5 [[V.int .i64 1,V.ren _ (lsV prow 2 s.pe),V.ren _ (V.ref 7 1 0 1 none),V.ren _ (V.ref 10 1 0 1 none),V.ren _ (lsV vrowL 2 s.bal)]]=_
          rw [V.ren_closed _ closed_lsV,V.ren_closed _ closed_lsV]
          refine two_eq ?_ ?_
          ·exact frz_snoc (n:=1) (a:=7) (src:=[some 1,some 3,some 4]) (fz:=[7,10]) (l:=[]) (x:=d.batch) closed_srow (by decide) rfl rfl rfl
          ·exact frz_snoc (n:=1) (a:=10) (src:=[some 1,some 3,some 4]) (fz:=[7,10]) (l:=[]) (x:=(0:Int)) closed_mrow (by decide) rfl rfl rfl
         ·have hsi:s.si≠[]:=fun h=>hna (List.length_eq_zero_iff.1 (by rw [←hs1,h];rfl))
          have hl0:¬s.si.length≤0:=fun h=>hsi (List.length_eq_zero_iff.1 (by omega))
          have hl0':¬s.si.length=0:=by omega
          refine dops_ap rfl rfl (ap1 (f:=srow) (n:=1) (a:=5) hna rfl (by omega)) rfl (by kernel_rfl) ?_
          simp only [seval,push_cast,↓reduceIte,↓bP_some,↓aP_true,reduceCtorEq,happ_eq,upds_nil,upds_cons,List.map_nil,List.append_nil]
          refine dops_op rfl rfl rfl rfl (by kernel_rfl) ?_;refine dops_op rfl rfl rfl rfl (by kernel_rfl) ?_;refine dops_op rfl rfl rfl rfl (by kernel_rfl) ?_
          simp only [seval,push_cast,↓reduceIte,↓bP_some,↓aP_true,reduceCtorEq,happ_eq,upds_nil,upds_cons,List.map_nil,List.append_nil]
          refine dops_ap rfl rfl (ap2 (n:=1) (a:=6) (b:=7) (m:=s.na.length) (rows:=s.na.map srow) (by simp) rfl rfl (by omega)) rfl (by kernel_rfl) ?_
          simp only [seval,push_cast,↓reduceIte,↓bP_some,↓aP_true,reduceCtorEq,happ_eq,upds_nil,upds_cons,List.map_nil,List.append_nil]
          refine dops_op rfl rfl rfl rfl (by kernel_rfl) ?_;refine dops_op rfl rfl rfl rfl (by kernel_rfl) ?_
          refine dops_nil ?_
          refine Xf0 (Q5 @cells_lsV @isVal_lsV @rowsOf_lsV hl0 (Q4 hl0' (show s.si.length*8≤140737488355328 by omega) (show (s.si.length+1)*8≤140737488355328 by omega) (show IntKind.i64.wrap (s.na.length:Int)=s.na.length from wrap_nat (by omega)))) ?_
          refine wShift [some 1,some 3,some 4] [8,12] rfl rfl ?_ key
          refine sh_c (congrArg some ?_) (sh_c rfl (sh_c (congrArg some (blk_ren (by simp [V.closed,closed_lsV,dcl]))) sh_n))
          show Blk.arr 5 [[V.int .i64 1,V.ren _ (lsV prow 2 s.pe),V.ren _ (V.ref 8 1 0 (s.na.length+1) none),V.ren _ (V.ref 12 1 0 (s.si.length+1) none),V.ren _ (lsV vrowL 2 s.bal)]]=_
          rw [V.ren_closed _ closed_lsV,V.ren_closed _ closed_lsV]
          refine two_eq ?_ ?_
          ·exact frz_snoc (n:=1) (a:=8) (src:=[some 1,some 3,some 4]) (fz:=[8,12]) (l:=s.na) (x:=d.batch) closed_srow (by decide) rfl rfl (congrArg (fun r=>some (Blk.arr 1 r)) (List.map_append (f:=srow) (l₁:=s.na) (l₂:=[d.batch])).symm)
          ·rw [←hs1]
           exact frz_snoc (n:=1) (a:=12) (src:=[some 1,some 3,some 4]) (fz:=[8,12]) (l:=s.si) (x:=(0:Int)) closed_mrow (by decide) rfl rfl rfl
       ·obtain hkk:findG (fun x=>x == d.batch) s.na 0=(k:Int):=by omega
        rw [hkk] at kb ⊢
        have hk0:¬(k:Int) < 0:=by omega
        rw [if_neg hk0,Int.toNat_natCast]
        have hkl:k < s.si.length:=by rw [hs1];exact (List.getElem?_eq_some_iff.1 hkx).1
        have key:=hK k hkk _ (List.getElem?_eq_getElem hkl)
        generalize (castG s i k (kd,ms))=RES at *
        unfold tmC ddrow
        simp only [show rsC s=[.int .i64 s.ph,lsV prow 2 s.pe,lsV srow 1 s.na,lsV mrow 1 s.si,lsV vrowL 2 s.bal] from rfl] at key ⊢
        refine Xf3 (Q5 h1' hi0 hia hp (Q5 @prow_eq @cells_lsV @isVal_lsV dq (Q3 h4' dc dv))) kf kn kr ?_
        simp only [h1'] at key
        refine opsP_call rfl kb ?_
        simp only [seval,push_cast,↓reduceIte,↓bP_some,↓aP_true,reduceCtorEq]
        refine wSeq rfl ?_
        generalize hcc:T115.val.body.r.r.r.r.r.r.r=cc at key ⊢
        refine Wf0 hk0 ?_
        refine wShift [some 1,some 3,some 4] [] (E1:=Env.sh _ _) rfl rfl ?_ (SWP.forget (env_sub ?_) key)
        ·exact sh_c (congrArg some (blk_ren (by simp [V.closed,closed_lsV]))) (sh_c rfl (sh_c (congrArg some (blk_ren (by simp [V.closed,closed_lsV,dcl]))) sh_n))
        ·intro q hq
         simp only [List.mem_cons,List.not_mem_nil,or_false] at hq
         rcases hq with rfl|rfl|rfl|rfl|rfl <;> rfl
end Go.Proofs.YtigdhgbkgfagiaaGreat
namespace Go.Proofs.YtigdhgbkgfagiaaGreat
def whoR (s:Rs) (d:Dd):Int:=findG (fun x=>x.1 == d.name) s.pe 0
def manR (s:Rs) (d:Dd):List UInt8×Int:=s.pe[(whoR s d).toNat]?.getD ([],0)
def enrolR (s:Rs) (d:Dd):Rs×Bool:=
 if s.ph≠0∨namedS d.name=false∨d.prec < 0∨7 < d.prec∨0≤whoR s d∨64≤s.pe.length then (s,false) else ({ s with pe:=s.pe++[(d.name,1)] },true)
def moveR (s:Rs) (d:Dd) (u v:Int):Rs×Bool:=
 if s.ph≠1∨whoR s d < 0∨(manR s d).2≠u then (s,false) else ({ s with pe:=s.pe.set (whoR s d).toNat ((manR s d).1,v) },true)
def turnR (s:Rs) (u:Int) (ok:Bool):Rs×Bool:=if s.ph≠u∨ok=false then (s,false) else ({ s with ph:=u+1 },true)
def playR (t:Tm) (s:Rs) (d:Dd):Rs×Bool:=
 if d.kind=1 then enrolR s d else if d.kind=2 then turnR s 0 true else if d.kind=3 then moveR s d 1 2 else if d.kind=4 then moveR s d 2 1 else if d.kind=5 then castR t s d else if d.kind=6 then turnR s 1 (!(s.pe.any fun p=>decide (p.2=2))) else (s,false)
theorem lsV_pos {α:Type} {f:α→List V} {n i:Nat} {l:List α} {x:α} (h:i < l.length):lsV f n (l.set i x)=tl f n (l.set i x) none:=if_neg (fun e=>by
 have:=congrArg List.length e
 simp at this
 subst this
 simp at h)
theorem enrolR_no {s:Rs} {d:Dd} (h:s.ph≠0∨namedS d.name=false∨d.prec < 0∨7 < d.prec∨0≤whoR s d∨64≤s.pe.length):enrolR s d=(s,false):=if_pos h
theorem enrolR_yes {s:Rs} {d:Dd} (h:¬(s.ph≠0∨namedS d.name=false∨d.prec < 0∨7 < d.prec∨0≤whoR s d∨64≤s.pe.length)):enrolR s d=({ s with pe:=s.pe++[(d.name,1)] },true):=if_neg h
theorem moveR_no {s:Rs} {d:Dd} {u v:Int} (h:s.ph≠1∨whoR s d < 0∨(manR s d).2≠u):moveR s d u v=(s,false):=if_pos h
theorem moveR_yes {s:Rs} {d:Dd} {u v:Int} (h:¬(s.ph≠1∨whoR s d < 0∨(manR s d).2≠u)):moveR s d u v=({ s with pe:=s.pe.set (whoR s d).toNat ((manR s d).1,v) },true):=if_neg h
variable {L:Lib} (hL:L.T=tab.get)
include hL
theorem play1_v {t:Tm} {s:Rs} {d:Dd} (hs:RsOk s) (hd:okDd d) (hk:d.kind=1) :
    VFn L 58 [.agg (tmC t),.agg (rsC s),.agg (ddrow d)] (.tup [.agg (rsC (enrolR s d).1),.bool (enrolR s d).2]):=by
 obtain ⟨s1,c1,e1,f1⟩:=lsV_tl prow 2 s.pe
 have kf:=findR_v hL (c:=c1) (y:=d.name) f1 (by have:=hs.pe;omega)
 rw [←e1] at kf
 have d1:decide ((d.kind:Int)=1)=true:=decide_eq_true (by omega)
 have kn:=nameR_v hL (s:=d.name) hd.name
 refine VFn.start (F:=T58.1) (by rw [hL];rfl) rfl (by simp [V.closeds,V.closed,closed_lsV,closed_nlv,tmC,rsC,ddrow]) (closed_rsV _ _) ?_
 have hret:=closed_rsV s false
 have hlen:=hs.pe
 rw [show findG (fun x=>x.1 == d.name) s.pe 0=whoR s d from rfl] at kf
 generalize hI:whoR s d=I at *
 by_cases a1:s.ph≠0
 ·rw [enrolR_no (.inl a1)]
  unfold tmC rsC ddrow
  unfold rsC at hret
  refine Wf1 (Q4 d1 a1 @cells_lsV @isVal_lsV) kf ?_
  exact FnQ.ret rfl hret
 ·have a1':s.ph=0:=Decidable.not_not.1 a1
  have a1d:decide (s.ph=0)=true:=decide_eq_true a1'
  cases hN:namedS d.name with
  | false=>
   rw [hN] at kn
   rw [enrolR_no (.inr (.inl hN))]
   unfold tmC rsC ddrow
   unfold rsC at hret
   rw [a1'] at hret
   refine Xf2 (Q4 d1 a1' @cells_lsV @isVal_lsV) kf kn ?_
   exact FnQ.ret rfl hret
  | true=>
   rw [hN] at kn
   have nN:¬namedS d.name=false:=by rw [hN];decide
   by_cases a2:d.prec < 0
   ·rw [enrolR_no (.inr (.inr (.inl a2)))]
    unfold tmC rsC ddrow
    unfold rsC at hret
    rw [a1'] at hret
    refine Xf2 (Q5 d1 a1' @a2 @cells_lsV @isVal_lsV) kf kn ?_
    exact FnQ.ret rfl hret
   ·by_cases a3:7 < d.prec
    ·rw [enrolR_no (.inr (.inr (.inr (.inl a3))))]
     unfold tmC rsC ddrow
     unfold rsC at hret
     rw [a1'] at hret
     refine Xf2 (Q5 d1 a1' @a2 @a3 (Q2 @cells_lsV @isVal_lsV)) kf kn ?_
     exact FnQ.ret rfl hret
    ·by_cases a4:0≤I
     ·rw [enrolR_no (.inr (.inr (.inr (.inr (.inl (by rw [hI];exact a4))))))]
      unfold tmC rsC ddrow
      unfold rsC at hret
      rw [a1'] at hret
      refine Xf2 (Q5 d1 a1' @a2 @a3 (Q3 @a4 @cells_lsV @isVal_lsV)) kf kn ?_
      exact FnQ.ret rfl hret
     ·by_cases a5:64≤s.pe.length
      ·have a5':(64:Int)≤s.pe.length:=by omega
       rw [enrolR_no (.inr (.inr (.inr (.inr (.inr a5)))))]
       unfold tmC rsC ddrow
       unfold rsC at hret
       rw [a1'] at hret
       refine Xf2 (Q5 d1 a1' @a2 @a3 (Q5 @a4 @lenQ_lsV a5' @cells_lsV @isVal_lsV)) kf kn ?_
       exact FnQ.ret rfl hret
      ·have a5':¬(64:Int)≤s.pe.length:=by omega
       rw [enrolR_yes (fun h=>h.elim a1 fun h=>h.elim nN fun h=>h.elim a2 fun h=>h.elim a3 fun h=>h.elim (fun h=>a4 (by rw [←hI];exact h)) a5)]
       have hfin:∀(σ:Nat→Sg) (a:Nat),V.ren σ (.ref a 2 0 (s.pe.length+1) none)=lsV prow 2 (s.pe++[(d.name,1)])→V.ren σ (.tup [.agg [.int .i64 0,.ref a 2 0 (s.pe.length+1) none,lsV srow 1 s.na,lsV mrow 1 s.si,lsV vrowL 2 s.bal],.bool true])=V.tup [.agg [.int .i64 0,lsV prow 2 (s.pe++[(d.name,1)]),lsV srow 1 s.na,lsV mrow 1 s.si,lsV vrowL 2 s.bal],.bool true]:=fun σ a h=>by
        show V.tup [.agg [.int .i64 0,V.ren σ (.ref a 2 0 (s.pe.length+1) none),V.ren σ _,V.ren σ _,V.ren σ _],.bool true]=_
        rw [V.ren_closed _ closed_lsV,V.ren_closed _ closed_lsV,V.ren_closed _ closed_lsV,h]
       have hfz:∀(H:Heap) (a:Nat),H.get a=some (.arr 2 ((s.pe++[(d.name,(1:Int))]).map prow))→V.ren (sgOf H [] [a]) (.ref a 2 0 (s.pe.length+1) none)=lsV prow 2 (s.pe++[(d.name,1)]):=fun H a h=>frz_snoc (n:=2) (src:=[]) (fz:=[a]) closed_prow (by decide) rfl (by simp) h
       unfold tmC rsC ddrow
       dsimp only
       rw [a1']
       refine Xf2 (Q5 d1 @a2 @a3 @a4 (Q4 a5' @lenQ_lsV @cells_lsV @isVal_lsV)) kf kn ?_
       refine wDrawD rfl ?_
       refine dops_op rfl rfl rfl rfl (by kernel_rfl) ?_;refine dops_op rfl rfl rfl rfl (by kernel_rfl) ?_;refine dops_op rfl rfl rfl rfl (by kernel_rfl) ?_
       simp only [seval,push_cast,↓reduceIte,↓bP_some,↓aP_true,reduceCtorEq,happ_eq,upds_nil,upds_cons,List.map_nil,List.append_nil]
       by_cases hpe:s.pe=[]
       ·simp only [hpe] at hfin hfz ⊢
        refine dops_op rfl rfl rfl rfl (by kernel_rfl) ?_;refine dops_op rfl rfl rfl rfl (by kernel_rfl) ?_;refine dops_op rfl rfl rfl rfl (by kernel_rfl) ?_;refine dops_op rfl rfl rfl rfl (by kernel_rfl) ?_;refine dops_op rfl rfl rfl rfl (by kernel_rfl) ?_
        simp only [seval,push_cast,↓reduceIte,↓bP_some,↓aP_true,reduceCtorEq,happ_eq,upds_nil,upds_cons,List.map_nil,List.append_nil]
        refine dops_op rfl rfl rfl rfl (by kernel_rfl) ?_;refine dops_op rfl rfl rfl rfl (by kernel_rfl) ?_;refine dops_op rfl rfl rfl rfl (by kernel_rfl) ?_
        refine dops_nil ?_
        refine Xf0 (Q2 @cells_lsV @isVal_lsV) ?_
        exact FnQ.frz [6] rfl (hfin _ 6 (hfz _ 6 rfl))
       ·refine dops_ap rfl rfl (ap1 (f:=prow) (n:=2) (a:=4) hpe rfl (by omega)) rfl (by kernel_rfl) ?_
        simp only [seval,push_cast,↓reduceIte,↓bP_some,↓aP_true,reduceCtorEq,happ_eq,upds_nil,upds_cons,List.map_nil,List.append_nil]
        refine dops_op rfl rfl rfl rfl (by kernel_rfl) ?_;refine dops_op rfl rfl rfl rfl (by kernel_rfl) ?_;refine dops_op rfl rfl rfl rfl (by kernel_rfl) ?_;refine dops_op rfl rfl rfl rfl (by kernel_rfl) ?_
        simp only [seval,push_cast,↓reduceIte,↓bP_some,↓aP_true,reduceCtorEq,happ_eq,upds_nil,upds_cons,List.map_nil,List.append_nil]
        refine dops_ap rfl rfl (ap2 (n:=2) (a:=5) (b:=6) (m:=s.pe.length) (rows:=s.pe.map prow) (by simp) rfl rfl (by omega)) rfl (by kernel_rfl) ?_
        simp only [seval,push_cast,↓reduceIte,↓bP_some,↓aP_true,reduceCtorEq,happ_eq,upds_nil,upds_cons,List.map_nil,List.append_nil]
        refine dops_op rfl rfl rfl rfl (by kernel_rfl) ?_;refine dops_op rfl rfl rfl rfl (by kernel_rfl) ?_
        refine dops_nil ?_
        refine Xf0 (Q2 @cells_lsV @isVal_lsV) ?_
        exact FnQ.frz [7] rfl (hfin _ 7 (hfz _ 7 (congrArg (fun r=>some (Blk.arr 2 r)) (List.map_append (f:=prow) (l₁:=s.pe) (l₂:=[(d.name,1)])).symm)))
theorem play2_v {t:Tm} {s:Rs} {d:Dd} (hs:RsOk s) (hk:d.kind=2) :
    VFn L 58 [.agg (tmC t),.agg (rsC s),.agg (ddrow d)] (.tup [.agg (rsC (turnR s 0 true).1),.bool (turnR s 0 true).2]):=by
 obtain ⟨s1,c1,e1,f1⟩:=lsV_tl prow 2 s.pe
 have kf:=findR_v hL (c:=c1) (y:=d.name) f1 (by have:=hs.pe;omega)
 rw [←e1] at kf
 have d1:decide ((d.kind:Int)=1)=false:=decide_eq_false (by omega)
 have d2:decide ((d.kind:Int)=2)=true:=decide_eq_true (by omega)
 refine VFn.start (F:=T58.1) (by rw [hL];rfl) rfl (by simp [V.closeds,V.closed,closed_lsV,closed_nlv,tmC,rsC,ddrow]) (closed_rsV _ _) ?_
 have hret:=closed_rsV s false
 by_cases a1:s.ph≠0
 ·rw [show turnR s 0 true=(s,false) from if_pos (.inl a1)]
  unfold tmC rsC ddrow
  unfold rsC at hret
  refine Wf1 (Q5 d1 d2 a1 @cells_lsV @isVal_lsV) kf ?_
  exact FnQ.ret rfl hret
 ·have a1':s.ph=0:=Decidable.not_not.1 a1
  rw [show turnR s 0 true=({ s with ph:=0+1 },true) from if_neg (by simp [a1'])]
  have hret:=closed_rsV { s with ph:=0+1 } true
  unfold tmC rsC ddrow
  unfold rsC at hret
  refine Xf1 (Q5 d1 d2 a1' @cells_lsV @isVal_lsV) kf ?_
  exact FnQ.ret rfl hret
theorem play3_v {t:Tm} {s:Rs} {d:Dd} (hs:RsOk s) (hk:d.kind=3) :
    VFn L 58 [.agg (tmC t),.agg (rsC s),.agg (ddrow d)] (.tup [.agg (rsC (moveR s d 1 2).1),.bool (moveR s d 1 2).2]):=by
 obtain ⟨s1,c1,e1,f1⟩:=lsV_tl prow 2 s.pe
 have kf:=findR_v hL (c:=c1) (y:=d.name) f1 (by have:=hs.pe;omega)
 rw [←e1] at kf
 have d1:decide ((d.kind:Int)=1)=false:=decide_eq_false (by omega)
 have d2:decide ((d.kind:Int)=2)=false:=decide_eq_false (by omega)
 have d3:decide ((d.kind:Int)=3)=true:=decide_eq_true (by omega)
 have hfs:=findG_spec (p:=fun x=>x.1 == d.name) s.pe 0
 refine VFn.start (F:=T58.1) (by rw [hL];rfl) rfl (by simp [V.closeds,V.closed,closed_lsV,closed_nlv,tmC,rsC,ddrow]) (closed_rsV _ _) ?_
 have hret:=closed_rsV s false
 have hlen:=hs.pe
 rw [show findG (fun x=>x.1 == d.name) s.pe 0=whoR s d from rfl] at kf hfs
 by_cases a1:s.ph≠1
 ·rw [moveR_no (.inl a1)]
  unfold tmC rsC ddrow
  unfold rsC at hret
  refine Wf1 (Q5 d1 d2 d3 a1 (Q2 @cells_lsV @isVal_lsV)) kf ?_
  exact FnQ.ret rfl hret
 ·have a1':s.ph=1:=Decidable.not_not.1 a1
  unfold rsC at hret
  rw [a1'] at hret
  rcases hfs with ⟨hI,-⟩|⟨i,p,hI,hp,-,-⟩
  ·rw [moveR_no (.inr (.inl (by rw [hI];decide)))]
   rw [hI] at kf
   unfold tmC rsC ddrow
   refine Xf1 (Q5 d1 d2 d3 a1' (Q2 @cells_lsV @isVal_lsV)) kf ?_
   exact FnQ.ret rfl hret
  ·obtain hI':whoR s d=(i:Int):=by omega
   have hip:i < s.pe.length:=(List.getElem?_eq_some_iff.1 hp).1
   have hia:=iaQ_lsV (f:=prow) (n:=2) hip
   have hi0:¬(i:Int) < 0:=by omega
   have hman:manR s d=p:=by unfold manR;rw [hI',Int.toNat_natCast,hp];rfl
   rw [hI'] at kf
   by_cases a2:p.2≠1
   ·rw [moveR_no (.inr (.inr (by rw [hman];exact a2)))]
    unfold tmC rsC ddrow
    refine Xf1 (Q5 d1 d2 d3 a1' (Q5 hi0 hia hp @prow_eq (Q3 @a2 @cells_lsV @isVal_lsV))) kf ?_
    exact FnQ.ret rfl hret
   ·have a2':p.2=1:=Decidable.not_not.1 a2
    rw [moveR_yes (by rw [hman];exact fun h=>h.elim a1 fun h=>h.elim (fun h=>hi0 (by rw [←hI'];exact h)) a2),hman,hI',Int.toNat_natCast]
    have kw:=withR_v hL (c:=c1) (st:=2) f1 (by omega) hp
    rw [←e1,←lsV_pos hip] at kw
    have hret:=closed_rsV { s with pe:=s.pe.set i (p.1,2) } true
    unfold tmC rsC ddrow
    unfold rsC at hret
    dsimp only at hret ⊢
    rw [a1'] at hret ⊢
    obtain ⟨pn,ps⟩:=p
    simp only at a2'
    subst a2'
    refine Xf2 (Q5 d1 d2 d3 hi0 (Q5 hia hp @prow_eq @cells_lsV @isVal_lsV)) kf kw ?_
    exact FnQ.ret rfl hret
theorem play4_v {t:Tm} {s:Rs} {d:Dd} (hs:RsOk s) (hk:d.kind=4) :
    VFn L 58 [.agg (tmC t),.agg (rsC s),.agg (ddrow d)] (.tup [.agg (rsC (moveR s d 2 1).1),.bool (moveR s d 2 1).2]):=by
 obtain ⟨s1,c1,e1,f1⟩:=lsV_tl prow 2 s.pe
 have kf:=findR_v hL (c:=c1) (y:=d.name) f1 (by have:=hs.pe;omega)
 rw [←e1] at kf
 have d1:decide ((d.kind:Int)=1)=false:=decide_eq_false (by omega)
 have d2:decide ((d.kind:Int)=2)=false:=decide_eq_false (by omega)
 have d3:decide ((d.kind:Int)=3)=false:=decide_eq_false (by omega)
 have d4:decide ((d.kind:Int)=4)=true:=decide_eq_true (by omega)
 have hfs:=findG_spec (p:=fun x=>x.1 == d.name) s.pe 0
 refine VFn.start (F:=T58.1) (by rw [hL];rfl) rfl (by simp [V.closeds,V.closed,closed_lsV,closed_nlv,tmC,rsC,ddrow]) (closed_rsV _ _) ?_
 have hret:=closed_rsV s false
 have hlen:=hs.pe
 rw [show findG (fun x=>x.1 == d.name) s.pe 0=whoR s d from rfl] at kf hfs
 by_cases a1:s.ph≠1
 ·rw [moveR_no (.inl a1)]
  unfold tmC rsC ddrow
  unfold rsC at hret
  refine Wf1 (Q5 d1 d2 d3 d4 (Q3 a1 @cells_lsV @isVal_lsV)) kf ?_
  exact FnQ.ret rfl hret
 ·have a1':s.ph=1:=Decidable.not_not.1 a1
  unfold rsC at hret
  rw [a1'] at hret
  rcases hfs with ⟨hI,-⟩|⟨i,p,hI,hp,-,-⟩
  ·rw [moveR_no (.inr (.inl (by rw [hI];decide)))]
   rw [hI] at kf
   unfold tmC rsC ddrow
   refine Xf1 (Q5 d1 d2 d3 d4 (Q3 a1' @cells_lsV @isVal_lsV)) kf ?_
   exact FnQ.ret rfl hret
  ·obtain hI':whoR s d=(i:Int):=by omega
   have hip:i < s.pe.length:=(List.getElem?_eq_some_iff.1 hp).1
   have hia:=iaQ_lsV (f:=prow) (n:=2) hip
   have hi0:¬(i:Int) < 0:=by omega
   have hman:manR s d=p:=by unfold manR;rw [hI',Int.toNat_natCast,hp];rfl
   rw [hI'] at kf
   by_cases a2:p.2≠2
   ·rw [moveR_no (.inr (.inr (by rw [hman];exact a2)))]
    unfold tmC rsC ddrow
    refine Xf1 (Q5 d1 d2 d3 d4 (Q5 a1' hi0 hia hp (Q4 @prow_eq @a2 @cells_lsV @isVal_lsV))) kf ?_
    exact FnQ.ret rfl hret
   ·have a2':p.2=2:=Decidable.not_not.1 a2
    rw [moveR_yes (by rw [hman];exact fun h=>h.elim a1 fun h=>h.elim (fun h=>hi0 (by rw [←hI'];exact h)) a2),hman,hI',Int.toNat_natCast]
    have kw:=withR_v hL (c:=c1) (st:=1) f1 (by omega) hp
    rw [←e1,←lsV_pos hip] at kw
    have hret:=closed_rsV { s with pe:=s.pe.set i (p.1,1) } true
    unfold tmC rsC ddrow
    unfold rsC at hret
    dsimp only at hret ⊢
    rw [a1'] at hret ⊢
    obtain ⟨pn,ps⟩:=p
    simp only at a2'
    subst a2'
    refine Xf2 (Q5 d1 d2 d3 d4 (Q5 hi0 hia hp @prow_eq (Q2 @cells_lsV @isVal_lsV))) kf kw ?_
    exact FnQ.ret rfl hret
theorem play5_v {t:Tm} {s:Rs} {d:Dd} (hs:RsOk s) (ht:okTm t) (hd:okDd d) (hnm:t.name.length < 4611686018427387904) (hcs:∀x∈t.cands.l,x.length < 4611686018427387904) (hk:d.kind=5) :
    VFn L 58 [.agg (tmC t),.agg (rsC s),.agg (ddrow d)] (.tup [.agg (rsC (castR t s d).1),.bool (castR t s d).2]):=by
 obtain ⟨s1,c1,e1,f1⟩:=lsV_tl prow 2 s.pe
 have kf:=findR_v hL (c:=c1) (y:=d.name) f1 (by have:=hs.pe;omega)
 rw [←e1] at kf
 have d1:decide ((d.kind:Int)=1)=false:=decide_eq_false (by omega)
 have d2:decide ((d.kind:Int)=2)=false:=decide_eq_false (by omega)
 have d3:decide ((d.kind:Int)=3)=false:=decide_eq_false (by omega)
 have d4:decide ((d.kind:Int)=4)=false:=decide_eq_false (by omega)
 have d5:decide ((d.kind:Int)=5)=true:=decide_eq_true (by omega)
 have kc:=castR_v hL hs ht hd hnm hcs
 refine VFn.start (F:=T58.1) (by rw [hL];rfl) rfl (by simp [V.closeds,V.closed,closed_lsV,closed_nlv,tmC,rsC,ddrow]) (closed_rsV _ _) ?_
 have hret:=closed_rsV (castR t s d).1 (castR t s d).2
 unfold rsC at kc
 generalize castR t s d=R at *
 obtain ⟨R,b⟩:=R
 unfold tmC ddrow at kc
 unfold tmC rsC ddrow
 unfold rsC at hret
 dsimp only at kc hret ⊢
 refine Wf2 (Q5 d1 d2 d3 d4 (Q3 d5 @cells_lsV @isVal_lsV)) kf kc ?_
 exact FnQ.ret rfl hret
theorem play6_v {t:Tm} {s:Rs} {d:Dd} (hs:RsOk s) (hk:d.kind=6) :
    VFn L 58 [.agg (tmC t),.agg (rsC s),.agg (ddrow d)] (.tup [.agg (rsC (turnR s 1 (!(s.pe.any fun p=>decide (p.2=2)))).1),.bool (turnR s 1 (!(s.pe.any fun p=>decide (p.2=2)))).2]):=by
 obtain ⟨s1,c1,e1,f1⟩:=lsV_tl prow 2 s.pe
 have kf:=findR_v hL (c:=c1) (y:=d.name) f1 (by have:=hs.pe;omega)
 rw [←e1] at kf
 have d1:decide ((d.kind:Int)=1)=false:=decide_eq_false (by omega)
 have d2:decide ((d.kind:Int)=2)=false:=decide_eq_false (by omega)
 have d3:decide ((d.kind:Int)=3)=false:=decide_eq_false (by omega)
 have d4:decide ((d.kind:Int)=4)=false:=decide_eq_false (by omega)
 have d5:decide ((d.kind:Int)=5)=false:=decide_eq_false (by omega)
 have d6:decide ((d.kind:Int)=6)=true:=decide_eq_true (by omega)
 have kh:=holdingR_v hL (c:=c1) f1 (by have:=hs.pe;omega)
 rw [←e1] at kh
 refine VFn.start (F:=T58.1) (by rw [hL];rfl) rfl (by simp [V.closeds,V.closed,closed_lsV,closed_nlv,tmC,rsC,ddrow]) (closed_rsV _ _) ?_
 have hret:=closed_rsV s false
 by_cases a1:s.ph≠1
 ·rw [show ∀b,turnR s 1 b=(s,false) from fun b=>if_pos (.inl a1)]
  unfold tmC rsC ddrow
  unfold rsC at hret
  refine Wf1 (Q5 d1 d2 d3 d4 (Q5 d5 d6 a1 @cells_lsV @isVal_lsV)) kf ?_
  exact FnQ.ret rfl hret
 ·have a1':s.ph=1:=Decidable.not_not.1 a1
  cases hB:(s.pe.any fun p=>decide (p.2=2)) with
  | true=>
   rw [hB] at kh
   rw [show turnR s 1 (!true)=(s,false) from if_pos (.inr rfl)]
   unfold tmC rsC ddrow
   unfold rsC at hret
   rw [a1'] at hret
   refine Xf2 (Q5 d1 d2 d3 d4 (Q5 d5 d6 a1' @cells_lsV @isVal_lsV)) kf kh ?_
   exact FnQ.ret rfl hret
  | false=>
   rw [hB] at kh
   rw [show turnR s 1 (!false)=({ s with ph:=1+1 },true) from if_neg (by simp [a1'])]
   have hret:=closed_rsV { s with ph:=1+1 } true
   unfold tmC rsC ddrow
   unfold rsC at hret
   refine Xf2 (Q5 d1 d2 d3 d4 (Q5 d5 d6 a1' @cells_lsV @isVal_lsV)) kf kh ?_
   exact FnQ.ret rfl hret
theorem playR_v {t:Tm} {s:Rs} {d:Dd} (hs:RsOk s) (ht:okTm t) (hd:okDd d) (hnm:t.name.length < 4611686018427387904) (hcs:∀x∈t.cands.l,x.length < 4611686018427387904) :
    VFn L 58 [.agg (tmC t),.agg (rsC s),.agg (ddrow d)] (.tup [.agg (rsC (playR t s d).1),.bool (playR t s d).2]):=by
 unfold playR
 by_cases hk1:d.kind=1
 ·rw [if_pos hk1]
  exact play1_v hL hs hd hk1
 rw [if_neg hk1]
 by_cases hk2:d.kind=2
 ·rw [if_pos hk2]
  exact play2_v hL hs hk2
 rw [if_neg hk2]
 by_cases hk3:d.kind=3
 ·rw [if_pos hk3]
  exact play3_v hL hs hk3
 rw [if_neg hk3]
 by_cases hk4:d.kind=4
 ·rw [if_pos hk4]
  exact play4_v hL hs hk4
 rw [if_neg hk4]
 by_cases hk5:d.kind=5
 ·rw [if_pos hk5]
  exact play5_v hL hs ht hd hnm hcs hk5
 rw [if_neg hk5]
 by_cases hk6:d.kind=6
 ·rw [if_pos hk6]
  exact play6_v hL hs hk6
 rw [if_neg hk6]
 obtain ⟨s1,c1,e1,f1⟩:=lsV_tl prow 2 s.pe
 have kf:=findR_v hL (c:=c1) (y:=d.name) f1 (by have:=hs.pe;omega)
 rw [←e1] at kf
 have d1:decide ((d.kind:Int)=1)=false:=decide_eq_false (by omega)
 have d2:decide ((d.kind:Int)=2)=false:=decide_eq_false (by omega)
 have d3:decide ((d.kind:Int)=3)=false:=decide_eq_false (by omega)
 have d4:decide ((d.kind:Int)=4)=false:=decide_eq_false (by omega)
 have d5:decide ((d.kind:Int)=5)=false:=decide_eq_false (by omega)
 have d6:decide ((d.kind:Int)=6)=false:=decide_eq_false (by omega)
 refine VFn.start (F:=T58.1) (by rw [hL];rfl) rfl (by simp [V.closeds,V.closed,closed_lsV,closed_nlv,tmC,rsC,ddrow]) (closed_rsV _ _) ?_
 have hret:=closed_rsV s false
 unfold tmC rsC ddrow
 unfold rsC at hret
 refine Wf1 (Q5 d1 d2 d3 d4 (Q4 d5 d6 @cells_lsV @isVal_lsV)) kf ?_
 exact FnQ.ret rfl hret
end Go.Proofs.YtigdhgbkgfagiaaGreat
