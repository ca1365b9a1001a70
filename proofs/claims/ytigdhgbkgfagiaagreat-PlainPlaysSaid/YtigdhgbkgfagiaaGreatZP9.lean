/- The model of an election: votes cast, walked. · The model of an election: deeds, walked. -/
import Derived.Test.YtigdhgbkgfagiaaGreatZM1
import Derived.Test.YtigdhgbkgfagiaaGreatZM2
import Derived.Test.YtigdhgbkgfagiaaGreatZP8
set_option maxRecDepth 100000
set_option maxHeartbeats 4000000
set_option linter.unusedVariables false
set_option linter.unusedSimpArgs false
namespace Go.Proofs.YtigdhgbkgfagiaaGreat
def readD (t:Tm) (d:Dd):Rg×Int:=readF t.ct t.lo t.hi t.skips d.boxes.l d.decs.l
def castS (t:Tm) (s:Ms) (d:Dd):Ms×Bool:=
 if s.ph≠1∨(s.ho.get d.name).getD false=false∨namedS d.batch=false then (s,false)
 else if (readD t d).2≠0∨0 < (readD t d).1.db.length then (s,false)
 else if 64≤(s.ba.get d.batch).getD 0∨s.ba.has d.batch=false∧16≤s.ba.es.length then (s,false)
 else ({ s with ho:=s.ho.del d.name,ba:=s.ba.set d.batch ((s.ba.get d.batch).getD 0+1),vs:=s.vs++[((readD t d).1.kind,(readD t d).1.ms)] },true)
def st6 (t:Tm) (s:Ms):Heap:=[some (.arr 20 [modK t s 6]),some (mapB V.bool s.en),some (mapB V.bool s.fr),some (mapB V.bool s.ho),some (mapB (V.int .i64) s.ba),none,accB vrow 2 s.vs]
theorem st_shift6 {H:Heap} {t:Tm} {s:Ms} {k:Nat} (hk:posIn [some 0,some 1,some 2,some 3,some 4,some 5,some k] k 0=some 6) (h0:H.get 0=some (.arr 20 [modK t s k])) (h1:H.get 1=some (mapB V.bool s.en)) (h2:H.get 2=some (mapB V.bool s.fr)) (h3:H.get 3=some (mapB V.bool s.ho)) (h4:H.get 4=some (mapB (V.int .i64) s.ba)) (h5:H.get 5=none) (h6:H.get k=accB vrow 2 s.vs):H.sh [some 0,some 1,some 2,some 3,some 4,some 5,some k] []=st6 t s:=by
 have hσ:∀a,1≤a→a≤4→sgOf H [some 0,some 1,some 2,some 3,some 4,some 5,some k] [] a=.to a:=fun a h1 h2=>by
  match a,h1,h2 with
  | 1,_,_=>rfl
  | 2,_,_=>rfl
  | 3,_,_=>rfl
  | 4,_,_=>rfl
  | 0,h,_=>exact absurd h (by omega)
  | n+5,_,h=>exact absurd h (by omega)
 have hσk:sgOf H [some 0,some 1,some 2,some 3,some 4,some 5,some k] [] k=.to 6:=by unfold sgOf;rw [hk]
 refine sh_c ?_ (sh_c ?_ (sh_c ?_ (sh_c ?_ (sh_c ?_ (sh_c ?_ (sh_c ?_ sh_n))))))
 ·show (H.get 0).map _=_
  rw [h0,Option.map_some,modK_ren hσ hσk]
 ·show (H.get 1).map _=_
  rw [h1,Option.map_some,mapB_ren fun _=>rfl]
 ·show (H.get 2).map _=_
  rw [h2,Option.map_some,mapB_ren fun _=>rfl]
 ·show (H.get 3).map _=_
  rw [h3,Option.map_some,mapB_ren fun _=>rfl]
 ·show (H.get 4).map _=_
  rw [h4,Option.map_some,mapB_ren fun _=>rfl]
 ·show (H.get 5).map _=_
  rw [h5];rfl
 ·show (H.get k).map _=_
  rw [h6,accB_ren]
theorem lenQ_colV (l:List Int):lenQ (colV l)=some (.int .i64 l.length):=by
 obtain ⟨s,c,h,-⟩:=colV_tl l
 rw [h,lenQ_tl]
variable {L:Lib} (hL:L.T=tab.get)
include hL
theorem cast_a {t:Tm} {s:Ms} {d:Dd} (hs:MsOk s) (hb:∀k,0≤(s.ba.get k).getD 0) (hv:s.vs.length≤1000) (ht:okTm t) (hd:okDd d):AFn L (.fn 111) [.ptr 0 20 0 0,.agg (ddrow d)] (stH t s) (fun r H'=>r=.bool (castS t s d).2∧(H'=stH t (castS t s d).1∨H'=st6 t (castS t s d).1)):=by
 have kn:=named_v hL (s:=d.batch) hd.batch
 have kr:VFn L 147 [.agg [.str t.name,nlv srow 1 t.cands,.int .i64 t.seats,.int .u8 t.rule],.agg [.int .u8 t.lo,.int .u8 t.hi,.int .i64 t.skips],.agg [nlv urow 1 d.boxes],nlv drow 2 d.decs] (.tup [.agg (rgC (readD t d).1),.int .i64 (readD t d).2]):=by
  obtain ⟨s1,c1,e1,h1⟩:=nlv_tl (f:=srow) (n:=1) (o:=t.cands)
  obtain ⟨s2,c2,e2,h2⟩:=nlv_tl (f:=urow) (n:=1) (o:=d.boxes)
  obtain ⟨s3,c3,e3,h3⟩:=nlv_tl (f:=drow) (n:=2) (o:=d.decs)
  have:=read_v hL (c:=t.ct) (s:=s1) (k:=c1) (lo:=t.lo) (hi:=t.hi) (skips:=t.skips) (s':=s2) (B:=d.boxes.l) (k':=c2) (s2:=s3) (ds:=d.decs.l) (k2:=c3) h1 (show t.cands.l.length < _ by have:=ht.cands;omega) ht.rule h2 hd.boxes h3 hd.decs
  unfold ctC at this
  rw [e1,e2,e3]
  exact this
 have hbb:=hb d.batch
 obtain ⟨ph,en,fr,ho,ba,vs⟩:=s
 dsimp only at hbb hv
 unfold castS
 generalize readD t d=R at *
 obtain ⟨⟨kd,ms,ov,db⟩,e⟩:=R
 unfold rgC at kr
 dsimp only at kr ⊢
 have hld:=lenQ_colV db
 have hrc:=closed_rgM kd ms
 refine AFn.of_body (F:=T111.1) (by rw [hL];rfl) rfl ?_
 unfold ddrow stH st6 modK
 by_cases h1:ph≠1
 ·rw [if_pos (.inl h1)]
  refine Wf1 h1 kn ?_
  exact FnQ.sh [some 0,some 1,some 2,some 3,some 4,some 5] [] rfl rfl rfl (st_shift (s:=⟨ph,en,fr,ho,ba,vs⟩) rfl rfl rfl rfl rfl rfl rfl) ⟨rfl,.inl rfl⟩
 ·obtain rfl:ph=1:=Decidable.not_not.1 h1
  by_cases h2:(ho.get d.name).getD false=false
  ·rw [if_pos (.inr (.inl h2))]
   refine Wf1 h2 kn ?_
   exact FnQ.sh [some 0,some 1,some 2,some 3,some 4,some 5] [] rfl rfl rfl (st_shift (s:=⟨1,en,fr,ho,ba,vs⟩) rfl rfl rfl rfl rfl rfl rfl) ⟨rfl,.inl rfl⟩
  ·replace h2:(ho.get d.name).getD false=true:=by simpa using h2
   by_cases h3:namedS d.batch=false
   ·rw [if_pos (.inr (.inr h3))]
    refine Wf1 (Q2 h2 h3) kn ?_
    exact FnQ.sh [some 0,some 1,some 2,some 3,some 4,some 5] [] rfl rfl rfl (st_shift (s:=⟨1,en,fr,ho,ba,vs⟩) rfl rfl rfl rfl rfl rfl rfl) ⟨rfl,.inl rfl⟩
   ·replace h3:namedS d.batch=true:=by simpa using h3
    rw [if_neg (by simp [h2,h3])]
    by_cases h4:e≠0
    ·rw [if_pos (.inl h4)]
     refine Wf2 (Q3 h2 h3 h4) kn kr ?_
     exact FnQ.sh [some 0,some 1,some 2,some 3,some 4,some 5] [] rfl rfl rfl (st_shift (s:=⟨1,en,fr,ho,ba,vs⟩) rfl rfl rfl rfl rfl rfl rfl) ⟨rfl,.inl rfl⟩
    ·obtain rfl:e=0:=Decidable.not_not.1 h4
     by_cases h5:0 < db.length
     ·rw [if_pos (.inr h5)]
      refine Wf2 (Q4 h2 h3 hld (show (0:Int) < db.length by omega)) kn kr ?_
      exact FnQ.sh [some 0,some 1,some 2,some 3,some 4,some 5] [] rfl rfl rfl (st_shift (s:=⟨1,en,fr,ho,ba,vs⟩) rfl rfl rfl rfl rfl rfl rfl) ⟨rfl,.inl rfl⟩
     ·rw [if_neg (by simp only [not_or];exact ⟨by simp,h5⟩)]
      have h5':¬(0:Int) < db.length:=by omega
      generalize hn:(ba.get d.batch).getD 0=n at *
      by_cases h6:64≤n
      ·rw [if_pos (.inl h6)]
       refine Wf2 (Q5 h2 h3 hld h5' (Q2 hn h6)) kn kr ?_
       exact FnQ.sh [some 0,some 1,some 2,some 3,some 4,some 5] [] rfl rfl rfl (st_shift (s:=⟨1,en,fr,ho,ba,vs⟩) rfl rfl rfl rfl rfl rfl rfl) ⟨rfl,.inl rfl⟩
      ·by_cases h7:ba.has d.batch=true
       ·rw [if_neg (by simp [h6,h7])]
        have hw:IntKind.i64.wrap (n+1)=n+1:=wrap_i64 (by omega) (by omega)
        by_cases hvs:vs=[]
        ·subst hvs
         refine Wf2 (Q5 h2 h3 hld h5' (Q5 hn h6 h7 hw (Q2 @accV_nil @accB_nil))) kn kr ?_
         exact FnQ.sh [some 0,some 1,some 2,some 3,some 4,some 5,some 9] [] rfl rfl rfl (st_shift6 (k:=9) (s:=⟨1,en,fr,ho.del d.name,ba.set d.batch (n+1),[(kd,ms)]⟩) rfl rfl rfl rfl rfl rfl rfl rfl) ⟨rfl,.inr rfl⟩
        ·have hroom:(vs.length+1)*32≤140737488355328:=by omega
         rw [accV_cons hvs,accB_cons hvs]
         refine Wf2 (Q5 h2 h3 hld h5' (Q5 hn h6 h7 hw hroom)) kn kr ?_
         exact FnQ.sh [some 0,some 1,some 2,some 3,some 4,some 5,some 9] [] rfl rfl rfl (st_shift6 (k:=9) (s:=⟨1,en,fr,ho.del d.name,ba.set d.batch (n+1),vs++[(kd,ms)]⟩) rfl (by unfold modK;rw [accV_snoc];rfl) rfl rfl rfl rfl rfl (by rw [accB_snoc,List.map_append];rfl)) ⟨rfl,.inr rfl⟩
       ·replace h7:ba.has d.batch=false:=by simpa using h7
        by_cases h8:16≤ba.es.length
        ·rw [if_pos (.inr ⟨h7,h8⟩)]
         refine Wf2 (Q5 h2 h3 hld h5' (Q4 hn h6 h7 (show (16:Int)≤ba.es.length by omega))) kn kr ?_
         exact FnQ.sh [some 0,some 1,some 2,some 3,some 4,some 5] [] rfl rfl rfl (st_shift (s:=⟨1,en,fr,ho,ba,vs⟩) rfl rfl rfl rfl rfl rfl rfl) ⟨rfl,.inl rfl⟩
        ·rw [if_neg (by simp [h6,h7];omega)]
         have hw:IntKind.i64.wrap (n+1)=n+1:=wrap_i64 (by omega) (by omega)
         by_cases hvs:vs=[]
         ·subst hvs
          refine Wf2 (Q5 h2 h3 hld h5' (Q5 hn h6 h7 (show ¬(16:Int)≤ba.es.length by omega) (Q3 hw @accV_nil @accB_nil))) kn kr ?_
          exact FnQ.sh [some 0,some 1,some 2,some 3,some 4,some 5,some 9] [] rfl rfl rfl (st_shift6 (k:=9) (s:=⟨1,en,fr,ho.del d.name,ba.set d.batch (n+1),[(kd,ms)]⟩) rfl rfl rfl rfl rfl rfl rfl rfl) ⟨rfl,.inr rfl⟩
         ·have hroom:(vs.length+1)*32≤140737488355328:=by omega
          rw [accV_cons hvs,accB_cons hvs]
          refine Wf2 (Q5 h2 h3 hld h5' (Q5 hn h6 h7 (show ¬(16:Int)≤ba.es.length by omega) (Q2 hw hroom))) kn kr ?_
          exact FnQ.sh [some 0,some 1,some 2,some 3,some 4,some 5,some 9] [] rfl rfl rfl (st_shift6 (k:=9) (s:=⟨1,en,fr,ho.del d.name,ba.set d.batch (n+1),vs++[(kd,ms)]⟩) rfl (by unfold modK;rw [accV_snoc];rfl) rfl rfl rfl rfl rfl (by rw [accB_snoc,List.map_append];rfl)) ⟨rfl,.inr rfl⟩
end Go.Proofs.YtigdhgbkgfagiaaGreat
namespace Go.Proofs.YtigdhgbkgfagiaaGreat
section
variable {L:Lib} {i:AI} {l:List AI} {rs:List Rec} {ms:List Nat} {K:Env→Heap→Prop} {E:Env} {H:Heap}
theorem dops_frmP {f:Nat} {c:ACallee} {args:List AOpd} {vs vs':List V} {r0:V} {H0 h':Heap} (src:List Nat) (hg:i.goes E.get=some true) (hop:i.op=.call c args) (hv:callee L.G E.get c args=some (.fn f,vs)) (hn:nodupO (src.map some)=true) (hlt:(src.all fun a=>Nat.blt a H.length)=true) (hvs:vs.map (V.ren (sgOf H (src.map some) []))=vs') (hH:H.sh (src.map some) []=H0) (hf:AFn L (.fn f) vs' H0 (fun r h=>r=r0∧h=h')) (hlen:src.length≤h'.length)
    (hi:indB (ancM ms i.anc) { dst:=i.dst,looks:=i.looks,v:=some (r0.ren (outσ H.length src)),need:=src++[],eff:=effB H.length src [] h',slot:=H.length,k:=h'.length - src.length } 0 rs=true)
    (k:∀rec,dopsP L l (rs++[rec]) (ms++[ancM ms i.anc]) K (E.put i.dst (r0.ren (outσ H.length src))) (H.back src h')):dopsP L (i::l) rs ms K E H:=by
 unfold dopsP dstepP
 rw [hg]
 dsimp only
 rw [hop]
 dsimp only
 rw [hv]
 show FnD L (.fn f) vs H _
 refine ⟨src,[],[],r0,h',.fn f,rfl,hn,hlt,?_,rfl,hlen,fun i hi=>by simp at hi,hi,k _⟩
 rw [hvs,hH]
 exact hf
end
theorem closed_dd (d:Dd):V.closed (.agg (ddrow d))=true:=by
 simp [ddrow,V.closed,V.closeds,closed_nlv]
def mBox:Option Blk:=some (.arr 1 [[.ptr 0 20 0 0]])
theorem st_shift7 {t:Tm} {s:Ms} {x:Option Blk}:Heap.sh (stH t s++[mBox,x]) [some 0,some 1,some 2,some 3,some 4,some 5,some 6] []=stH t s++[mBox]:=by
 have hσ:∀a,1≤a→a≤4→sgOf (stH t s++[mBox,x]) [some 0,some 1,some 2,some 3,some 4,some 5,some 6] [] a=.to a:=fun a h1 h2=>by
  match a,h1,h2 with
  | 1,_,_=>rfl
  | 2,_,_=>rfl
  | 3,_,_=>rfl
  | 4,_,_=>rfl
  | 0,h,_=>exact absurd h (by omega)
  | n+5,_,h=>exact absurd h (by omega)
 exact sh_c (congrArg some (modK_ren hσ rfl)) (sh_c (congrArg some (mapB_ren fun _=>rfl)) (sh_c (congrArg some (mapB_ren fun _=>rfl)) (sh_c (congrArg some (mapB_ren fun _=>rfl)) (sh_c (congrArg some (mapB_ren fun _=>rfl)) (sh_c accB_ren (sh_c rfl sh_n))))))
theorem st_back7 {t:Tm} {s s':Ms} {x:Option Blk}:Heap.back (stH t s++[mBox,x]) [0,1,2,3,4,5,6] (stH t s'++[mBox])=stH t s'++[mBox,x]:=by
 have hσ:∀n a,1≤a→a≤4→outσ n [0,1,2,3,4,5,6] a=.to a:=fun n a h1 h2=>by
  match a,h1,h2 with
  | 1,_,_=>rfl
  | 2,_,_=>rfl
  | 3,_,_=>rfl
  | 4,_,_=>rfl
  | 0,h,_=>exact absurd h (by omega)
  | n+5,_,h=>exact absurd h (by omega)
 unfold Heap.back
 generalize (stH t s++[mBox,x]).length=n
 show Heap.upds (stH t s++[mBox,x]) [(0,(some (Blk.arr 20 [modK t s' 5])).map _),(1,(some (mapB V.bool s'.en)).map _),(2,(some (mapB V.bool s'.fr)).map _),(3,(some (mapB V.bool s'.ho)).map _),(4,(some (mapB (V.int .i64) s'.ba)).map _),(5,(accB vrow 2 s'.vs).map _),(6,mBox.map _)]++[]=_
 rw [Option.map_some,modK_ren (j:=5) (hσ n) rfl,Option.map_some,mapB_ren fun _=>rfl,Option.map_some,mapB_ren fun _=>rfl,Option.map_some,mapB_ren fun _=>rfl,Option.map_some,mapB_ren fun _=>rfl,accB_ren,List.append_nil]
 rfl
def st8 (t:Tm) (s:Ms) (x y:Option Blk):Heap:=[some (.arr 20 [modK t s 8]),some (mapB V.bool s.en),some (mapB V.bool s.fr),some (mapB V.bool s.ho),some (mapB (V.int .i64) s.ba),none,x,y,accB vrow 2 s.vs]
theorem st_back6 {t:Tm} {s s':Ms} {x y:Option Blk}:Heap.back (stH t s++[x,y]) [0,1,2,3,4,5] (st6 t s')=st8 t s' x y:=by
 have hσ:∀a,1≤a→a≤4→outσ 8 [0,1,2,3,4,5] a=.to a:=fun a h1 h2=>by
  match a,h1,h2 with
  | 1,_,_=>rfl
  | 2,_,_=>rfl
  | 3,_,_=>rfl
  | 4,_,_=>rfl
  | 0,h,_=>exact absurd h (by omega)
  | n+5,_,h=>exact absurd h (by omega)
 unfold Heap.back
 show Heap.upds (stH t s++[x,y]) [(0,(some (Blk.arr 20 [modK t s' 6])).map (Blk.ren (outσ 8 [0,1,2,3,4,5]))),(1,(some (mapB V.bool s'.en)).map _),(2,(some (mapB V.bool s'.fr)).map _),(3,(some (mapB V.bool s'.ho)).map _),(4,(some (mapB (V.int .i64) s'.ba)).map _),(5,none)]++[(accB vrow 2 s'.vs).map _]=_
 rw [Option.map_some,modK_ren (j:=8) hσ rfl,Option.map_some,mapB_ren fun _=>rfl,Option.map_some,mapB_ren fun _=>rfl,Option.map_some,mapB_ren fun _=>rfl,Option.map_some,mapB_ren fun _=>rfl,accB_ren]
 rfl
def acceptS (t:Tm) (s:Ms) (d:Dd):Ms×Bool:=
 if d.kind=1 then enrolS s d else if d.kind=2 then turnS s 0 true else if d.kind=3 then issueS s d.name else if d.kind=4 then returnS s d.name else if d.kind=5 then castS t s d else if d.kind=6 then turnS s 1 (decide (s.ho.es.length=0)) else (s,false)
variable {L:Lib} (hL:L.T=tab.get)
include hL
theorem accept_a {t:Tm} {s:Ms} {d:Dd} (hs:MsOk s) (hb:∀k,0≤(s.ba.get k).getD 0) (hv:s.vs.length≤1000) (ht:okTm t) (hd:okDd d):AFn L (.fn 57) [.ptr 0 20 0 0,.agg (ddrow d)] (stH t s) (fun r H'=>r=.bool (acceptS t s d).2∧(H'=stH t (acceptS t s d).1∨H'=st6 t (acceptS t s d).1)):=by
 have hdd:∀σ,V.ren σ (.agg (ddrow d))=.agg (ddrow d):=fun σ=>V.ren_closed σ (closed_dd d)
 refine AFn.of_body (F:=T57.1) (by rw [hL];rfl) rfl ?_
 unfold acceptS
 by_cases h1:d.kind=1
 ·rw [if_pos h1]
  have d1:decide ((d.kind:Int)=1)=true:=decide_eq_true (by omega)
  have ka:=enrol_a hL (t:=t) hs hd
  generalize enrolS s d=R at *
  unfold stH modK ddrow
  refine Wf0 d1 ?_
  refine opsP_frm [0,1,2,3,4,5] rfl rfl rfl (congrArg (fun v=>[V.ptr 0 20 0 0,v]) (hdd _)) (st_shift (t:=t) (s:=s) rfl rfl rfl rfl rfl rfl rfl) ka ?_
  rintro r h' ⟨rfl,rfl⟩
  refine Eq.mpr (congrArg (opsP L _ _ _) (st_back (t:=t) (s:=s) (s':=R.1) (X:=[_,_]) rfl)) ?_
  unfold stH modK
  refine Wn0 ?_
  exact FnQ.sh [some 0,some 1,some 2,some 3,some 4,some 5] [] rfl rfl rfl (st_shift (t:=t) (s:=R.1) rfl rfl rfl rfl rfl rfl rfl) ⟨rfl,.inl rfl⟩
 ·rw [if_neg h1]
  have d1:decide ((d.kind:Int)=1)=false:=decide_eq_false (by omega)
  by_cases h2:d.kind=2
  ·rw [if_pos h2]
   have d2:decide ((d.kind:Int)=2)=true:=decide_eq_true (by omega)
   have ka:=turn0_a hL (t:=t) (s:=s)
   generalize turnS s 0 true=R at *
   unfold stH modK ddrow
   refine Wf0 (Q2 d1 d2) ?_
   refine opsP_frm [0,1,2,3,4,5] rfl rfl rfl rfl (st_shift (t:=t) (s:=s) rfl rfl rfl rfl rfl rfl rfl) ka ?_
   rintro r h' ⟨rfl,rfl⟩
   refine Eq.mpr (congrArg (opsP L _ _ _) (st_back (t:=t) (s:=s) (s':=R.1) (X:=[_,_]) rfl)) ?_
   unfold stH modK
   refine Wn0 ?_
   exact FnQ.sh [some 0,some 1,some 2,some 3,some 4,some 5] [] rfl rfl rfl (st_shift (t:=t) (s:=R.1) rfl rfl rfl rfl rfl rfl rfl) ⟨rfl,.inl rfl⟩
  ·rw [if_neg h2]
   have d2:decide ((d.kind:Int)=2)=false:=decide_eq_false (by omega)
   by_cases h3:d.kind=3
   ·rw [if_pos h3]
    have d3:decide ((d.kind:Int)=3)=true:=decide_eq_true (by omega)
    have ka:=issue_a hL (t:=t) (s:=s) (k:=d.name)
    generalize issueS s d.name=R at *
    unfold stH modK ddrow
    (repeat' (first|refine Z0 ?_|refine Z1 ?_|simp only [seval,push_cast,↓reduceIte,↓bP_some,↓aP_true,reduceCtorEq,d1,d2,d3]))
    refine wDrawD rfl ?_
    refine dops_op rfl rfl rfl rfl (by kernel_rfl) ?_;refine dops_op rfl rfl rfl rfl (by kernel_rfl) ?_;refine dops_op rfl rfl rfl rfl (by kernel_rfl) ?_;refine dops_op rfl rfl rfl rfl (by kernel_rfl) ?_;refine dops_op rfl rfl rfl rfl (by kernel_rfl) ?_
    simp only [seval,push_cast,↓reduceIte,↓bP_some,↓aP_true,reduceCtorEq,happ_eq,upds_nil,upds_cons,List.map_nil,List.append_nil]
    refine dops_op rfl rfl rfl rfl (by kernel_rfl) ?_;refine dops_op rfl rfl rfl rfl (by kernel_rfl) ?_;refine dops_op rfl rfl rfl rfl (by kernel_rfl) ?_;refine dops_op rfl rfl rfl rfl (by kernel_rfl) ?_;refine dops_op rfl rfl rfl rfl (by kernel_rfl) ?_;refine dops_op rfl rfl rfl rfl (by kernel_rfl) ?_
    simp only [seval,push_cast,↓reduceIte,↓bP_some,↓aP_true,reduceCtorEq,happ_eq,upds_nil,upds_cons,List.map_nil,List.append_nil]
    refine dops_frmP [0,1,2,3,4,5] rfl rfl rfl rfl rfl rfl (st_shift (t:=t) (s:=s) rfl rfl rfl rfl rfl rfl rfl) ka (show 6≤6 by decide) (by kernel_rfl) ?_
    intro rec
    refine Eq.mpr (congrArg (dopsP L _ _ _ _ _) (st_back (t:=t) (s:=s) (s':=R.1) (X:=[_,_]) rfl)) ?_
    refine dops_op rfl rfl rfl rfl (by kernel_rfl) ?_
    refine dops_nil ?_
    unfold stH modK
    refine Xn0 ?_
    exact FnQ.sh [some 0,some 1,some 2,some 3,some 4,some 5] [] rfl rfl rfl (st_shift (t:=t) (s:=R.1) rfl rfl rfl rfl rfl rfl rfl) ⟨rfl,.inl rfl⟩
   ·rw [if_neg h3]
    have d3:decide ((d.kind:Int)=3)=false:=decide_eq_false (by omega)
    by_cases h4:d.kind=4
    ·rw [if_pos h4]
     have d4:decide ((d.kind:Int)=4)=true:=decide_eq_true (by omega)
     have ka:=return_a hL (t:=t) (s:=s) (k:=d.name)
     generalize returnS s d.name=R at *
     unfold stH modK ddrow
     (repeat' (first|refine Z0 ?_|refine Z1 ?_|simp only [seval,push_cast,↓reduceIte,↓bP_some,↓aP_true,reduceCtorEq,d1,d2,d3,d4]))
     refine wDrawD rfl ?_
     refine dops_op rfl rfl rfl rfl (by kernel_rfl) ?_;refine dops_op rfl rfl rfl rfl (by kernel_rfl) ?_;refine dops_op rfl rfl rfl rfl (by kernel_rfl) ?_;refine dops_op rfl rfl rfl rfl (by kernel_rfl) ?_;refine dops_op rfl rfl rfl rfl (by kernel_rfl) ?_
     simp only [seval,push_cast,↓reduceIte,↓bP_some,↓aP_true,reduceCtorEq,happ_eq,upds_nil,upds_cons,List.map_nil,List.append_nil]
     refine dops_op rfl rfl rfl rfl (by kernel_rfl) ?_;refine dops_op rfl rfl rfl rfl (by kernel_rfl) ?_;refine dops_op rfl rfl rfl rfl (by kernel_rfl) ?_;refine dops_op rfl rfl rfl rfl (by kernel_rfl) ?_;refine dops_op rfl rfl rfl rfl (by kernel_rfl) ?_;refine dops_op rfl rfl rfl rfl (by kernel_rfl) ?_
     simp only [seval,push_cast,↓reduceIte,↓bP_some,↓aP_true,reduceCtorEq,happ_eq,upds_nil,upds_cons,List.map_nil,List.append_nil]
     refine dops_frmP [0,1,2,3,4,5] rfl rfl rfl rfl rfl rfl (st_shift (t:=t) (s:=s) rfl rfl rfl rfl rfl rfl rfl) ka (show 6≤6 by decide) (by kernel_rfl) ?_
     intro rec
     refine Eq.mpr (congrArg (dopsP L _ _ _ _ _) (st_back (t:=t) (s:=s) (s':=R.1) (X:=[_,_]) rfl)) ?_
     refine dops_op rfl rfl rfl rfl (by kernel_rfl) ?_
     refine dops_nil ?_
     unfold stH modK
     refine Xn0 ?_
     exact FnQ.sh [some 0,some 1,some 2,some 3,some 4,some 5] [] rfl rfl rfl (st_shift (t:=t) (s:=R.1) rfl rfl rfl rfl rfl rfl rfl) ⟨rfl,.inl rfl⟩
    ·rw [if_neg h4]
     have d4:decide ((d.kind:Int)=4)=false:=decide_eq_false (by omega)
     by_cases h5:d.kind=5
     ·rw [if_pos h5]
      have d5:decide ((d.kind:Int)=5)=true:=decide_eq_true (by omega)
      have ka:=cast_a hL (t:=t) hs hb hv ht hd
      generalize castS t s d=R at *
      unfold stH modK ddrow
      refine Wf0 (Q5 d1 d2 d3 d4 d5) ?_
      refine opsP_frm [0,1,2,3,4,5] rfl rfl rfl (congrArg (fun v=>[V.ptr 0 20 0 0,v]) (hdd _)) (st_shift (t:=t) (s:=s) rfl rfl rfl rfl rfl rfl rfl) ka ?_
      rintro r h' ⟨rfl,rfl|rfl⟩
      ·refine Eq.mpr (congrArg (opsP L _ _ _) (st_back (t:=t) (s:=s) (s':=R.1) (X:=[_,_]) rfl)) ?_
       unfold stH modK
       refine Wn0 ?_
       exact FnQ.sh [some 0,some 1,some 2,some 3,some 4,some 5] [] rfl rfl rfl (st_shift (t:=t) (s:=R.1) rfl rfl rfl rfl rfl rfl rfl) ⟨rfl,.inl rfl⟩
      ·refine Eq.mpr (congrArg (opsP L _ _ _) (st_back6 (t:=t) (s:=s))) ?_
       unfold st8 modK
       refine Wn0 ?_
       exact FnQ.sh [some 0,some 1,some 2,some 3,some 4,some 5,some 8] [] rfl rfl rfl (st_shift6 (k:=8) (t:=t) (s:=R.1) rfl rfl rfl rfl rfl rfl rfl rfl) ⟨rfl,.inr rfl⟩
     ·rw [if_neg h5]
      have d5:decide ((d.kind:Int)=5)=false:=decide_eq_false (by omega)
      by_cases h6:d.kind=6
      ·rw [if_pos h6]
       have d6:decide ((d.kind:Int)=6)=true:=decide_eq_true (by omega)
       have ka:=turn1_a hL (t:=t) (s:=s)
       generalize turnS s 1 (decide (s.ho.es.length=0))=R at *
       unfold stH modK ddrow
       refine Wf0 (Q5 d1 d2 d3 d4 (Q2 d5 d6)) ?_
       refine opsP_frm [0,1,2,3,4,5,6] rfl rfl rfl rfl (st_shift7 (t:=t) (s:=s)) ka ?_
       rintro r h' ⟨rfl,rfl⟩
       refine Eq.mpr (congrArg (opsP L _ _ _) (st_back7 (t:=t) (s:=s))) ?_
       unfold stH modK mBox
       refine Wn0 ?_
       exact FnQ.sh [some 0,some 1,some 2,some 3,some 4,some 5] [] rfl rfl rfl (st_shift (t:=t) (s:=R.1) rfl rfl rfl rfl rfl rfl rfl) ⟨rfl,.inl rfl⟩
      ·rw [if_neg h6]
       have d6:decide ((d.kind:Int)=6)=false:=decide_eq_false (by omega)
       unfold stH modK ddrow
       refine Wf0 (Q5 d1 d2 d3 d4 (Q2 d5 d6)) ?_
       exact FnQ.sh [some 0,some 1,some 2,some 3,some 4,some 5] [] rfl rfl rfl (st_shift (t:=t) (s:=s) rfl rfl rfl rfl rfl rfl rfl) ⟨rfl,.inl rfl⟩
end Go.Proofs.YtigdhgbkgfagiaaGreat
