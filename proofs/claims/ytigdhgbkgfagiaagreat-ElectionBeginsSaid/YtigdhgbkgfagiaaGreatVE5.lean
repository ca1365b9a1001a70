/- Records, contests, terms compared, by the program and by the reference, walked. · Terms and elections compared, by the program and by the reference, walked. -/
import Derived.Test.YtigdhgbkgfagiaaGreatVE4
set_option maxRecDepth 100000
set_option maxHeartbeats 4000000
set_option linter.unusedVariables false
set_option linter.unusedSimpArgs false
namespace Go.Proofs.YtigdhgbkgfagiaaGreat
theorem ctS_eq (x y:Tm):ctS x y=(decide (x.name=y.name)&&(decide (x.seats=y.seats)&&(decide ((x.rule:Int)=y.rule)&&decide (x.cands.l=y.cands.l)))):=by
 unfold ctS
 by_cases h1:x.name=y.name <;> by_cases h2:x.seats=y.seats <;> by_cases h3:x.rule=y.rule <;> by_cases h4:x.cands.l=y.cands.l <;> simp [h1,h2,h3,h4] <;> omega
variable {L:Lib} (hL:L.T=tab.get)
include hL
theorem rer_v {a b:Nl Hb} (ha:a.l.length < 4611686018427387904) (hb:b.l.length < 4611686018427387904) (ka:∀x∈a.l,okHb x) (kb:∀x∈b.l,okHb x):VFn L 46 [nlv hbrow 2 a,nlv hbrow 2 b] (.bool (hbS a b)):=by
 refine VFn.start (F:=T46.1) (by rw [hL];rfl) rfl (by simp [V.closeds,V.closed,closed_nlv]) rfl ?_
 unfold hbS
 by_cases hlen:a.l.length=b.l.length
 ·refine Wf0 hlen ?_
  refine wCnt rfl 5 a.l.length (fun _=>[]) (fun j=>(a.l.take j).map hbE=(b.l.take j).map hbE) rfl rfl ?_ ?_
  ·intro j hj hI
   obtain ⟨x,hx,kx⟩:=get_of hj
   have hjb:j < b.l.length:=by omega
   obtain ⟨y,hy,ky⟩:=get_of hjb
   have hw:=wrap_succ (show j < 9223372036854775807 by omega)
   have gx:=ka x kx
   have gy:=kb y ky
   have e1:=s_neq (x:=x.name) (y:=y.name)
   by_cases h1:x.name=y.name
   ·rw [decide_eq_true h1] at e1
    by_cases h2:x.bals.l.length=y.bals.l.length
    ·refine Wf0 (Q5 hj hjb (iN hj) (iN hjb) (Q5 hx hy @hbrow_eq e1 h2)) ?_
     refine wCnt rfl 6 x.bals.l.length (fun _=>[]) (fun i=>(x.bals.l.take i).map bqE=(y.bals.l.take i).map bqE) rfl rfl ?_ ?_
     ·intro i hi hI2
      obtain ⟨p,hp,kp⟩:=get_of hi
      have hib:i < y.bals.l.length:=by omega
      obtain ⟨r,hr,kr⟩:=get_of hib
      have hwi:=wrap_succ (show i < 9223372036854775807 by have:=gx.2.1;omega)
      have kc:=bqr_v hL (gx.2.2 p kp) (gy.2.2 r kr)
      unfold balrow at kc
      by_cases e:bqE p=bqE r
      ·have hz:=map_snoc (e:=bqE) hp hr hI2 e
       rw [show bqS p r=true from decide_eq_true e] at kc
       refine Wf1 (Q5 hj hjb (iN hj) (iN hjb) (Q5 hx hy @hbrow_eq hi (Q5 hib (iN hi) (iN hib) hp (Q3 hr @balrow_eq hwi)))) kc ?_
       exact qR_n rfl rfl hz
      ·have hne:hbE x≠hbE y:=fun h=>list_neq (e:=bqE) hp hr e (congrArg Prod.snd h)
       rw [decide_eq_false (list_neq (e:=hbE) hx hy hne)]
       rw [show bqS p r=false from decide_eq_false e] at kc
       refine Wf1 (Q5 hj hjb (iN hj) (iN hjb) (Q5 hx hy @hbrow_eq hi (Q5 hib (iN hi) (iN hib) hp (Q2 hr @balrow_eq)))) kc ?_
       exact FnQ.ret rfl rfl
     ·intro hI2
      rw [take_allq,h2,take_allq] at hI2
      have hz:=map_snoc (e:=hbE) hx hy hI (show hbE x=hbE y by unfold hbE;rw [h1,hI2])
      refine Wf0 (Q5 hj hjb (iN hj) (iN hjb) (Q5 hx hy @hbrow_eq h2 hw)) ?_
      exact qR_n rfl rfl hz
    ·have hne:hbE x≠hbE y:=fun h=>h2 (by simpa [hbE] using congrArg (fun z=>z.2.length) h)
     rw [decide_eq_false (list_neq (e:=hbE) hx hy hne)]
     have h2':¬(x.bals.l.length:Int)=y.bals.l.length:=by omega
     refine Wf0 (Q5 hj hjb (iN hj) (iN hjb) (Q5 hx hy @hbrow_eq e1 h2)) ?_
     exact FnQ.ret rfl rfl
   ·rw [decide_eq_false h1] at e1
    have hne:hbE x≠hbE y:=fun h=>h1 (congrArg Prod.fst h)
    rw [decide_eq_false (list_neq (e:=hbE) hx hy hne)]
    refine Wf0 (Q5 hj hjb (iN hj) (iN hjb) (Q4 hx hy @hbrow_eq e1)) ?_
    exact FnQ.ret rfl rfl
  ·intro hI
   refine Wf0 hlen ?_
   rw [decide_eq_true (show a.l.map hbE=b.l.map hbE by rwa [take_allq,hlen,take_allq] at hI)]
   exact FnQ.ret rfl rfl
 ·refine Wf0 hlen ?_
  rw [decide_eq_false fun h=>hlen (by simpa using congrArg List.length h)]
  exact FnQ.ret rfl rfl
theorem ctp_v {x y:Tm} (hx:okTm x) (hy:okTm y):VFn L 92 [.agg [.str x.name,nlv srow 1 x.cands,.int .i64 x.seats,.int .u8 x.rule],.agg [.str y.name,nlv srow 1 y.cands,.int .i64 y.seats,.int .u8 y.rule]] (.bool (ctS x y)):=by
 have k1:=eqs_v hL (a:=x.cands) (b:=y.cands) (by have:=hx.cands;omega) (by have:=hy.cands;omega)
 have e1:=s_eql (x:=x.name) (y:=y.name)
 rw [ctS_eq]
 refine VFn.start (F:=T92.1) (by rw [hL];rfl) rfl (by simp [V.closeds,V.closed,closed_nlv]) rfl ?_
 generalize decide (x.cands.l=y.cands.l)=b4 at *
 by_cases h1:x.name=y.name
 ·rw [decide_eq_true h1] at e1 ⊢
  by_cases h2:x.seats=y.seats
  ·rw [decide_eq_true h2]
   by_cases h3:(x.rule:Int)=y.rule
   ·rw [decide_eq_true h3]
    refine Wf1 (Q3 e1 h2 h3) k1 ?_
    exact FnQ.ret rfl rfl
   ·rw [decide_eq_false h3]
    refine Wf1 (Q3 e1 h2 (ne_both h3)) k1 ?_
    exact FnQ.ret rfl rfl
  ·rw [decide_eq_false h2]
   refine Wf1 (Q2 e1 (ne_both h2)) k1 ?_
   exact FnQ.ret rfl rfl
 ·rw [decide_eq_false h1] at e1 ⊢
  refine Wf1 e1 k1 ?_
  exact FnQ.ret rfl rfl
theorem ctr_v {x y:Tm} (hx:okTm x) (hy:okTm y):VFn L 87 [.agg [.str x.name,nlv srow 1 x.cands,.int .i64 x.seats,.int .u8 x.rule],.agg [.str y.name,nlv srow 1 y.cands,.int .i64 y.seats,.int .u8 y.rule]] (.bool (ctS x y)):=by
 have e1:=s_neq (x:=x.name) (y:=y.name)
 rw [ctS_eq]
 refine VFn.start (F:=T87.1) (by rw [hL];rfl) rfl (by simp [V.closeds,V.closed,closed_nlv]) rfl ?_
 by_cases h1:x.name=y.name
 ·rw [decide_eq_true h1] at e1 ⊢
  by_cases h2:x.seats=y.seats
  ·rw [decide_eq_true h2]
   by_cases h3:(x.rule:Int)=y.rule
   ·rw [decide_eq_true h3]
    simp only [Bool.true_and]
    by_cases hlen:x.cands.l.length=y.cands.l.length
    ·refine Wf0 (Q4 e1 h2 h3 hlen) ?_
     refine wCnt rfl 5 x.cands.l.length (fun _=>[]) (fun j=>(x.cands.l.take j).map id=(y.cands.l.take j).map id) rfl rfl ?_ ?_
     ·intro j hj hI
      obtain ⟨p,hp,-⟩:=get_of hj
      have hjb:j < y.cands.l.length:=by omega
      obtain ⟨r,hr,-⟩:=get_of hjb
      have hw:=wrap_succ (show j < 9223372036854775807 by have:=hx.cands;omega)
      have e4:=s_neq (x:=p) (y:=r)
      by_cases e:id p=id r
      ·have hz:=map_snoc (e:=id) hp hr hI e
       rw [decide_eq_true (show p=r from e)] at e4
       refine Wf0 (Q5 hj hjb (iN hj) (iN hjb) (Q5 hp hr hw @srow_eq e4)) ?_
       exact qR_n rfl rfl hz
      ·have:=list_neq (e:=id) hp hr e
       simp only [List.map_id] at this
       rw [decide_eq_false this]
       rw [decide_eq_false (show ¬p=r from e)] at e4
       refine Wf0 (Q5 hj hjb (iN hj) (iN hjb) (Q5 hp hr hw @srow_eq e4)) ?_
       exact FnQ.ret rfl rfl
     ·intro hI
      rw [take_allq,hlen,take_allq] at hI
      simp only [List.map_id] at hI
      rw [decide_eq_true hI]
      refine Wf0 hlen ?_
      exact FnQ.ret rfl rfl
    ·rw [decide_eq_false fun h=>hlen (by rw [h])]
     refine Wf0 (Q4 e1 h2 h3 hlen) ?_
     exact FnQ.ret rfl rfl
   ·rw [decide_eq_false h3]
    refine Wf0 (Q3 e1 h2 (ne_both h3)) ?_
    exact FnQ.ret rfl rfl
  ·rw [decide_eq_false h2]
   refine Wf0 (Q2 e1 (ne_both h2)) ?_
   exact FnQ.ret rfl rfl
 ·rw [decide_eq_false h1] at e1 ⊢
  refine Wf0 e1 ?_
  exact FnQ.ret rfl rfl
end Go.Proofs.YtigdhgbkgfagiaaGreat
namespace Go.Proofs.YtigdhgbkgfagiaaGreat
def plSh:Shp:=.fld 0 1 true (.leaf 0) (.fld 1 1 true (.leaf 0) (.fld 2 1 true (.leaf 0) .nil))
theorem pl_cmp (x y:Tm):acmpQ plSh false (.agg [.int .u8 x.lo,.int .u8 x.hi,.int .i64 x.skips]) (.agg [.int .u8 y.lo,.int .u8 y.hi,.int .i64 y.skips])=some (.bool (plS x y)):=by
 unfold plS
 have h1:((x.lo:Int)=y.lo)↔x.lo=y.lo:=by omega
 have h2:((x.hi:Int)=y.hi)↔x.hi=y.hi:=by omega
 by_cases e1:x.lo=y.lo <;> by_cases e2:x.hi=y.hi <;> by_cases e3:x.skips=y.skips <;> simp [acmpQ,plSh,eqS,takeCells,sameK0,h1,h2,e1,e2,e3]
theorem eqLoop_all {p:Nat→Option Bool} {b:Nat→Bool}:∀(n i:Nat),(∀j,i≤j→j < i+n→p j=some (b j))→eqLoop p n i=some ((List.range' i n).all b)
 | 0,i,h=>rfl
 | n+1,i,h=>by
  unfold eqLoop
  rw [h i (Nat.le_refl _) (by omega),List.range'_succ,List.all_cons]
  cases hb:b i with
  | false=>rfl
  | true=>rw [Bool.true_and];exact eqLoop_all n (i+1) (fun j h1 h2=>h j (by omega) (by omega))
theorem sd_cmp (f g:Nat→Int):acmpQ (.arr 32 1 true (.leaf 0)) false (.agg (seedC f)) (.agg (seedC g))=some (.bool (sdS f g)):=by
 have h:eqS (.arr 32 1 true (.leaf 0)) (.agg (seedC f)) (.agg (seedC g))=some ((List.range' 0 32).all fun i=>f i == g i):=by
  unfold eqS
  refine eqLoop_all (b:=fun i=>f i == g i) 32 0 fun j _ hj=>?_
  have e:∀h:Nat→Int,takeCells (seedC h) (j*1) 1 true=some (.int .u8 (h j)):=fun h=>by
   have h1:((seedC h).drop (j*1)).take 1=[.int .u8 (h j)]:=by
    unfold seedC
    rw [Nat.mul_one,←List.map_drop,←List.map_take,List.drop_eq_getElem_cons (by simp;omega)]
    simp
   simp only [takeCells,h1,if_true]
  rw [e f,e g]
  simp [eqS,sameK0]
 unfold acmpQ
 rw [h]
 simp only [Option.map_some]
 congr 2
 unfold sdS
 rw [Bool.eq_iff_iff,decide_eq_true_eq]
 simp [List.all_eq_true,List.map_inj_left,List.mem_range'_1]
variable {L:Lib} (hL:L.T=tab.get)
include hL
theorem tmr_v {x y:Tm} (hx:okTm x) (hy:okTm y):VFn L 44 [.agg (tmC x),.agg (tmC y)] (.bool (tmS x y)):=by
 have k1:=ctr_v hL hx hy
 have e2:=pl_cmp x y
 have k3:=rqr_v hL (x:=x.d) (y:=y.d) ⟨hx.dnum,hx.dden⟩ ⟨hy.dnum,hy.dden⟩
 have k4:=rqr_v hL (x:=x.m) (y:=y.m) ⟨hx.lnum,hx.lden⟩ ⟨hy.lnum,hy.lden⟩
 have k5:=ints_v hL (a:=x.rounds) (b:=y.rounds) (by have:=hx.rounds;omega) (by have:=hy.rounds;omega)
 refine VFn.start (F:=T44.1) (by rw [hL];rfl) rfl (by simp [V.closeds,V.closed,closed_nlv,tmC]) rfl ?_
 unfold tmS
 unfold tmC
 unfold plSh at e2
 generalize ctS x y=b1 at *
 generalize plS x y=b2 at *
 generalize rqS x.d y.d=b3 at *
 generalize rqS x.m y.m=b4 at *
 generalize decide (x.rounds.l=y.rounds.l)=b5 at *
 unfold rqrow Tm.d at k3
 unfold rqrow Tm.m at k4
 dsimp only at k3 k4
 cases b1 with
 | false=>
  refine Wn1 k1 ?_
  exact FnQ.ret rfl rfl
 | true=>
 cases b2 with
 | false=>
  refine Wf1 e2 k1 ?_
  exact FnQ.ret rfl rfl
 | true=>
 cases b3 with
 | false=>
  refine Wf2 e2 k1 k3 ?_
  exact FnQ.ret rfl rfl
 | true=>
 cases b4 with
 | false=>
  refine Wf3 e2 k1 k3 k4 ?_
  exact FnQ.ret rfl rfl
 | true=>
 refine Wf4 e2 k1 k3 k4 k5 ?_
 exact FnQ.ret rfl rfl
theorem tmp_v {x y:Tm} (hx:okTm x) (hy:okTm y):VFn L 50 [.agg (tmC x),.agg (tmC y)] (.bool (tmS x y)):=by
 have k1:=ctp_v hL hx hy
 have e2:=pl_cmp x y
 have k3:=rqp_v hL (x:=x.d) (y:=y.d) ⟨hx.dnum,hx.dden⟩ ⟨hy.dnum,hy.dden⟩
 have k4:=rqp_v hL (x:=x.m) (y:=y.m) ⟨hx.lnum,hx.lden⟩ ⟨hy.lnum,hy.lden⟩
 have k5:=eqi_v hL (a:=x.rounds) (b:=y.rounds) (by have:=hx.rounds;omega) (by have:=hy.rounds;omega)
 refine VFn.start (F:=T50.1) (by rw [hL];rfl) rfl (by simp [V.closeds,V.closed,closed_nlv,tmC]) rfl ?_
 unfold tmS
 unfold tmC
 unfold plSh at e2
 generalize ctS x y=b1 at *
 generalize plS x y=b2 at *
 generalize rqS x.d y.d=b3 at *
 generalize rqS x.m y.m=b4 at *
 generalize decide (x.rounds.l=y.rounds.l)=b5 at *
 unfold rqrow Tm.d at k3
 unfold rqrow Tm.m at k4
 dsimp only at k3 k4
 cases b1 with
 | false=>
  refine Wn1 k1 ?_
  exact FnQ.ret rfl rfl
 | true=>
 cases b2 with
 | false=>
  refine Wf1 e2 k1 ?_
  exact FnQ.ret rfl rfl
 | true=>
 cases b3 with
 | false=>
  refine Wf2 e2 k1 k3 ?_
  exact FnQ.ret rfl rfl
 | true=>
 cases b4 with
 | false=>
  refine Wf3 e2 k1 k3 k4 ?_
  exact FnQ.ret rfl rfl
 | true=>
 refine Wf4 e2 k1 k3 k4 k5 ?_
 exact FnQ.ret rfl rfl
theorem elr_v {x y:El} (hx:okEl x) (hy:okEl y):VFn L 14 [.agg (elC x),.agg (elC y)] (.bool (elS x y)):=by
 have k1:=tmr_v hL hx.t hy.t
 have k3:=r24s_v hL (a:=x.roll) (b:=y.roll) (by have:=hx.roll;omega) (by have:=hy.roll;omega)
 have k4:=rer_v hL (a:=x.recs) (b:=y.recs) (by have:=hx.recs.1;omega) (by have:=hy.recs.1;omega) hx.recs.2 hy.recs.2
 have e5:=sd_cmp x.seed y.seed
 have k6:=ints_v hL (a:=x.lot) (b:=y.lot) (by have:x.lot.l.length≤_:=hx.lot;omega) (by have:y.lot.l.length≤_:=hy.lot;omega)
 have k7:=oqr_v hL hx.o hy.o
 have k8:=bor_v hL (a:=x.board) (b:=y.board) (by have:=hx.board.1;omega) (by have:=hy.board.1;omega)
 have hcx:=closed_el x
 have hcy:=closed_el y
 refine VFn.start (F:=T14.1) (by rw [hL];rfl) rfl (by simp [V.closeds,hcx,hcy]) rfl ?_
 clear hcx hcy hx hy
 unfold elS
 unfold tmC at k1
 unfold oqC at k7
 rw [show seedC x.seed=V.int .u8 (x.seed 0)::.int .u8 (x.seed 1)::.int .u8 (x.seed 2)::.int .u8 (x.seed 3)::.int .u8 (x.seed 4)::.int .u8 (x.seed 5)::.int .u8 (x.seed 6)::.int .u8 (x.seed 7)::.int .u8 (x.seed 8)::.int .u8 (x.seed 9)::.int .u8 (x.seed 10)::.int .u8 (x.seed 11)::.int .u8 (x.seed 12)::.int .u8 (x.seed 13)::.int .u8 (x.seed 14)::.int .u8 (x.seed 15)::.int .u8 (x.seed 16)::.int .u8 (x.seed 17)::.int .u8 (x.seed 18)::.int .u8 (x.seed 19)::.int .u8 (x.seed 20)::.int .u8 (x.seed 21)::.int .u8 (x.seed 22)::.int .u8 (x.seed 23)::.int .u8 (x.seed 24)::.int .u8 (x.seed 25)::.int .u8 (x.seed 26)::.int .u8 (x.seed 27)::.int .u8 (x.seed 28)::.int .u8 (x.seed 29)::.int .u8 (x.seed 30)::.int .u8 (x.seed 31)::[] from rfl,show seedC y.seed=V.int .u8 (y.seed 0)::.int .u8 (y.seed 1)::.int .u8 (y.seed 2)::.int .u8 (y.seed 3)::.int .u8 (y.seed 4)::.int .u8 (y.seed 5)::.int .u8 (y.seed 6)::.int .u8 (y.seed 7)::.int .u8 (y.seed 8)::.int .u8 (y.seed 9)::.int .u8 (y.seed 10)::.int .u8 (y.seed 11)::.int .u8 (y.seed 12)::.int .u8 (y.seed 13)::.int .u8 (y.seed 14)::.int .u8 (y.seed 15)::.int .u8 (y.seed 16)::.int .u8 (y.seed 17)::.int .u8 (y.seed 18)::.int .u8 (y.seed 19)::.int .u8 (y.seed 20)::.int .u8 (y.seed 21)::.int .u8 (y.seed 22)::.int .u8 (y.seed 23)::.int .u8 (y.seed 24)::.int .u8 (y.seed 25)::.int .u8 (y.seed 26)::.int .u8 (y.seed 27)::.int .u8 (y.seed 28)::.int .u8 (y.seed 29)::.int .u8 (y.seed 30)::.int .u8 (y.seed 31)::[] from rfl] at e5
 rw [elC_eq,elC_eq]
 generalize tmS x.t y.t=b1 at *
 generalize vtS x.roll y.roll=b3 at *
 generalize hbS x.recs y.recs=b4 at *
 generalize sdS x.seed y.seed=b5 at *
 generalize decide (x.lot.l=y.lot.l)=b6 at *
 generalize oqS x.o y.o=b7 at *
 generalize enS x.board y.board=b8 at *
 cases b1 with
 | false=>
  refine Wn1 k1 ?_
  exact FnQ.ret rfl rfl
 | true=>
 by_cases h2:x.stage=y.stage
 rotate_left
 ·rw [decide_eq_false h2]
  refine Wf1 (ne_both h2) k1 ?_
  exact FnQ.ret rfl rfl
 rw [decide_eq_true h2]
 cases b3 with
 | false=>
  refine Wf2 h2 k1 k3 ?_
  exact FnQ.ret rfl rfl
 | true=>
 cases b4 with
 | false=>
  refine Wf3 h2 k1 k3 k4 ?_
  exact FnQ.ret rfl rfl
 | true=>
 cases b5 with
 | false=>
  refine Wf3 (Q2 h2 e5) k1 k3 k4 ?_
  exact FnQ.ret rfl rfl
 | true=>
 cases b6 with
 | false=>
  refine Wf4 (Q2 h2 e5) k1 k3 k4 k6 ?_
  exact FnQ.ret rfl rfl
 | true=>
 cases b7 with
 | false=>
  refine Wf5 (Q2 h2 e5) k1 k3 k4 k6 k7 ?_
  exact FnQ.ret rfl rfl
 | true=>
 refine Wf6 (Q2 h2 e5) k1 k3 k4 k6 k7 k8 ?_
 exact FnQ.ret rfl rfl
theorem elp_v {x y:El} (hx:okEl x) (hy:okEl y):VFn L 15 [.agg (elC x),.agg (elC y)] (.bool (elS x y)):=by
 have k1:=tmp_v hL hx.t hy.t
 have k3:=eqvt_v hL (a:=x.roll) (b:=y.roll) (by have:=hx.roll;omega) (by have:=hy.roll;omega)
 have k4:=rep_v hL (a:=x.recs) (b:=y.recs) (by have:=hx.recs.1;omega) (by have:=hy.recs.1;omega) hx.recs.2 hy.recs.2
 have e5:=sd_cmp x.seed y.seed
 have k6:=eqi_v hL (a:=x.lot) (b:=y.lot) (by have:x.lot.l.length≤_:=hx.lot;omega) (by have:y.lot.l.length≤_:=hy.lot;omega)
 have k7:=oqp_v hL hx.o hy.o
 have k8:=bop_v hL (a:=x.board) (b:=y.board) (by have:=hx.board.1;omega) (by have:=hy.board.1;omega) hx.board.2 hy.board.2
 have hcx:=closed_el x
 have hcy:=closed_el y
 refine VFn.start (F:=T15.1) (by rw [hL];rfl) rfl (by simp [V.closeds,hcx,hcy]) rfl ?_
 clear hcx hcy hx hy
 unfold elS
 unfold tmC at k1
 unfold oqC at k7
 rw [show seedC x.seed=V.int .u8 (x.seed 0)::.int .u8 (x.seed 1)::.int .u8 (x.seed 2)::.int .u8 (x.seed 3)::.int .u8 (x.seed 4)::.int .u8 (x.seed 5)::.int .u8 (x.seed 6)::.int .u8 (x.seed 7)::.int .u8 (x.seed 8)::.int .u8 (x.seed 9)::.int .u8 (x.seed 10)::.int .u8 (x.seed 11)::.int .u8 (x.seed 12)::.int .u8 (x.seed 13)::.int .u8 (x.seed 14)::.int .u8 (x.seed 15)::.int .u8 (x.seed 16)::.int .u8 (x.seed 17)::.int .u8 (x.seed 18)::.int .u8 (x.seed 19)::.int .u8 (x.seed 20)::.int .u8 (x.seed 21)::.int .u8 (x.seed 22)::.int .u8 (x.seed 23)::.int .u8 (x.seed 24)::.int .u8 (x.seed 25)::.int .u8 (x.seed 26)::.int .u8 (x.seed 27)::.int .u8 (x.seed 28)::.int .u8 (x.seed 29)::.int .u8 (x.seed 30)::.int .u8 (x.seed 31)::[] from rfl,show seedC y.seed=V.int .u8 (y.seed 0)::.int .u8 (y.seed 1)::.int .u8 (y.seed 2)::.int .u8 (y.seed 3)::.int .u8 (y.seed 4)::.int .u8 (y.seed 5)::.int .u8 (y.seed 6)::.int .u8 (y.seed 7)::.int .u8 (y.seed 8)::.int .u8 (y.seed 9)::.int .u8 (y.seed 10)::.int .u8 (y.seed 11)::.int .u8 (y.seed 12)::.int .u8 (y.seed 13)::.int .u8 (y.seed 14)::.int .u8 (y.seed 15)::.int .u8 (y.seed 16)::.int .u8 (y.seed 17)::.int .u8 (y.seed 18)::.int .u8 (y.seed 19)::.int .u8 (y.seed 20)::.int .u8 (y.seed 21)::.int .u8 (y.seed 22)::.int .u8 (y.seed 23)::.int .u8 (y.seed 24)::.int .u8 (y.seed 25)::.int .u8 (y.seed 26)::.int .u8 (y.seed 27)::.int .u8 (y.seed 28)::.int .u8 (y.seed 29)::.int .u8 (y.seed 30)::.int .u8 (y.seed 31)::[] from rfl] at e5
 rw [elC_eq,elC_eq]
 generalize tmS x.t y.t=b1 at *
 generalize vtS x.roll y.roll=b3 at *
 generalize hbS x.recs y.recs=b4 at *
 generalize sdS x.seed y.seed=b5 at *
 generalize decide (x.lot.l=y.lot.l)=b6 at *
 generalize oqS x.o y.o=b7 at *
 generalize enS x.board y.board=b8 at *
 cases b1 with
 | false=>
  refine Wn1 k1 ?_
  exact FnQ.ret rfl rfl
 | true=>
 by_cases h2:x.stage=y.stage
 rotate_left
 ·rw [decide_eq_false h2]
  refine Wf1 (ne_both h2) k1 ?_
  exact FnQ.ret rfl rfl
 rw [decide_eq_true h2]
 cases b3 with
 | false=>
  refine Wf2 h2 k1 k3 ?_
  exact FnQ.ret rfl rfl
 | true=>
 cases b4 with
 | false=>
  refine Wf3 h2 k1 k3 k4 ?_
  exact FnQ.ret rfl rfl
 | true=>
 cases b5 with
 | false=>
  refine Wf3 (Q2 h2 e5) k1 k3 k4 ?_
  exact FnQ.ret rfl rfl
 | true=>
 cases b6 with
 | false=>
  refine Wf4 (Q2 h2 e5) k1 k3 k4 k6 ?_
  exact FnQ.ret rfl rfl
 | true=>
 cases b7 with
 | false=>
  refine Wf5 (Q2 h2 e5) k1 k3 k4 k6 k7 ?_
  exact FnQ.ret rfl rfl
 | true=>
 refine Wf6 (Q2 h2 e5) k1 k3 k4 k6 k7 k8 ?_
 exact FnQ.ret rfl rfl
end Go.Proofs.YtigdhgbkgfagiaaGreat
