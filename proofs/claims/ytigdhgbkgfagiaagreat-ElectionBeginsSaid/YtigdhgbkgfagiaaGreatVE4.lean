/- Fractions, rounds, ties, outcomes, ballots, batches, entries compared, by the program and by the reference, walked. · Ties, outcomes, ballots, entries compared, by the program and by the reference, walked. · Entries, boards, batches, contests, terms, elections compared, by the program and by the reference, walked. -/
import Derived.Test.YtigdhgbkgfagiaaGreatVE3
set_option maxRecDepth 100000
set_option maxHeartbeats 4000000
set_option linter.unusedVariables false
set_option linter.unusedSimpArgs false
namespace Go.Proofs.YtigdhgbkgfagiaaGreat
theorem rqS_eq (x y:Rq):rqS x y=((x.neg == y.neg)&&(decide (x.num.l=y.num.l)&&decide (x.den.l=y.den.l))):=by
 unfold rqS rqE
 by_cases h1:x.neg=y.neg <;> by_cases h2:x.num.l=y.num.l <;> by_cases h3:x.den.l=y.den.l <;> simp [h1,h2,h3]
theorem dqS_eq (x y:Dq):dqS x y=(decide (x.had.l.map rqE=y.had.l.map rqE)&&(rqS x.lost y.lost&&(decide (x.el.l=y.el.l)&&decide (x.out.l=y.out.l)))):=by
 unfold dqS dqE rqS
 by_cases h1:x.had.l.map rqE=y.had.l.map rqE <;> by_cases h2:rqE x.lost=rqE y.lost <;> by_cases h3:x.el.l=y.el.l <;> by_cases h4:x.out.l=y.out.l <;> simp [h1,h2,h3,h4]
theorem tqS_eq (x y:Tq):tqS x y=(decide (x.chosen=y.chosen)&&decide (x.among.l=y.among.l)):=by
 unfold tqS tqE
 by_cases h1:x.chosen=y.chosen <;> by_cases h2:x.among.l=y.among.l <;> simp [h1,h2]
theorem bqS_eq (x y:Int×Nl Int):bqS x y=(decide (x.1=y.1)&&decide (x.2.l=y.2.l)):=by
 unfold bqS bqE
 by_cases h1:x.1=y.1 <;> by_cases h2:x.2.l=y.2.l <;> simp [h1,h2]
theorem unrow_bytes:∀l:List UInt8,(l.map byrow).foldr unRow (some [])=some l
 | []=>rfl
 | b::l=>by
  rw [List.map_cons,List.foldr_cons,unrow_bytes l]
  show some (UInt8.ofNat ((b.toNat:Nat):Int).toNat::l)=_
  rw [Int.toNat_natCast,UInt8.ofNat_toNat]
variable {L:Lib} (hL:L.T=tab.get)
include hL
theorem natS_v {a b:Nl Nat} (ha:okN4 a) (hb:okN4 b):VFn L 145 [nlv nrow 1 a,nlv nrow 1 b] (.bool (decide (a.l=b.l))):=by
 have k:=eqn_v hL (a:=a) (b:=b) (by have:a.l.length≤_:=ha;omega) (by have:b.l.length≤_:=hb;omega)
 refine VFn.start (F:=T145.1) (by rw [hL];rfl) rfl (by simp [V.closeds,closed_nlv]) rfl ?_
 refine Wn1 k ?_
 exact FnQ.ret rfl rfl
theorem rqr_v {x y:Rq} (hx:okRq x) (hy:okRq y):VFn L 88 [.agg (rqrow x),.agg (rqrow y)] (.bool (rqS x y)):=by
 have k1:=r03s_v hL (a:=x.num) (b:=y.num) (by have:x.num.l.length≤_:=hx.1;omega) (by have:y.num.l.length≤_:=hy.1;omega)
 have k2:=r03s_v hL (a:=x.den) (b:=y.den) (by have:x.den.l.length≤_:=hx.2;omega) (by have:y.den.l.length≤_:=hy.2;omega)
 have k3:=(rfl:(x.neg == y.neg)=(x.neg == y.neg))
 rw [rqS_eq]
 refine VFn.start (F:=T88.1) (by rw [hL];rfl) rfl (by simp [V.closeds,V.closed,closed_nlv,rqrow]) rfl ?_
 unfold rqrow at *
 generalize decide (x.num.l=y.num.l)=b1 at *
 generalize decide (x.den.l=y.den.l)=b2 at *
 generalize hb:(x.neg == y.neg)=b3 at *
 cases b1 <;> cases b2 <;> cases b3 <;>
 ·refine Wf2 hb k1 k2 ?_
  exact FnQ.ret rfl rfl
theorem rqp_v {x y:Rq} (hx:okRq x) (hy:okRq y):VFn L 93 [.agg (rqrow x),.agg (rqrow y)] (.bool (rqS x y)):=by
 have k1:=natS_v hL (a:=x.num) (b:=y.num) hx.1 hy.1
 have k2:=natS_v hL (a:=x.den) (b:=y.den) hx.2 hy.2
 have k3:=(rfl:(x.neg == y.neg)=(x.neg == y.neg))
 rw [rqS_eq]
 refine VFn.start (F:=T93.1) (by rw [hL];rfl) rfl (by simp [V.closeds,V.closed,closed_nlv,rqrow]) rfl ?_
 unfold rqrow at *
 generalize decide (x.num.l=y.num.l)=b1 at *
 generalize decide (x.den.l=y.den.l)=b2 at *
 generalize hb:(x.neg == y.neg)=b3 at *
 cases b1 <;> cases b2 <;> cases b3 <;>
 ·refine Wf2 hb k1 k2 ?_
  exact FnQ.ret rfl rfl
theorem r04a_v {a b:Nl Rq} (ha:a.l.length < 4611686018427387904) (hb:b.l.length < 4611686018427387904) (ka:∀x∈a.l,okRq x) (kb:∀x∈b.l,okRq x):VFn L 143 [nlv rqrow 3 a,nlv rqrow 3 b] (.bool (decide (a.l.map rqE=b.l.map rqE))):=by
 refine VFn.start (F:=T143.1) (by rw [hL];rfl) rfl (by simp [V.closeds,V.closed,closed_nlv]) rfl ?_
 by_cases hlen:a.l.length=b.l.length
 ·refine Wf0 hlen ?_
  refine wCnt rfl 5 a.l.length (fun _=>[]) (fun j=>(a.l.take j).map rqE=(b.l.take j).map rqE) rfl rfl ?_ ?_
  ·intro j hj hI
   obtain ⟨x,hx,kx⟩:=get_of hj
   have hjb:j < b.l.length:=by omega
   obtain ⟨y,hy,ky⟩:=get_of hjb
   have hw:=wrap_succ (show j < 9223372036854775807 by omega)
   have kc:=rqr_v hL (ka x kx) (kb y ky)
   by_cases e:rqE x=rqE y
   ·have hz:=map_snoc (e:=rqE) hx hy hI e
    rw [show rqS x y=true from decide_eq_true e] at kc
    unfold rqrow at kc
    refine Wf1 (Q5 hj hjb (iN hj) (iN hjb) (Q4 hx hy hw @rqrow_eq)) kc ?_
    exact qR_n rfl rfl hz
   ·rw [decide_eq_false (list_neq (e:=rqE) hx hy e)]
    rw [show rqS x y=false from decide_eq_false e] at kc
    unfold rqrow at kc
    refine Wf1 (Q5 hj hjb (iN hj) (iN hjb) (Q4 hx hy hw @rqrow_eq)) kc ?_
    exact FnQ.ret rfl rfl
  ·intro hI
   refine Wf0 hlen ?_
   rw [decide_eq_true (show a.l.map rqE=b.l.map rqE by rwa [take_allq,hlen,take_allq] at hI)]
   exact FnQ.ret rfl rfl
 ·refine Wf0 hlen ?_
  rw [decide_eq_false fun h=>hlen (by simpa using congrArg List.length h)]
  exact FnQ.ret rfl rfl
theorem eqfrq_v {a b:Nl Rq} (ha:a.l.length < 4611686018427387904) (hb:b.l.length < 4611686018427387904) (ka:∀x∈a.l,okRq x) (kb:∀x∈b.l,okRq x):VFn L 99 [nlv rqrow 3 a,nlv rqrow 3 b,.fn 93 [] []] (.bool (decide (a.l.map rqE=b.l.map rqE))):=by
 refine VFn.start (F:=T99.1) (by rw [hL];rfl) rfl (by simp [V.closeds,V.closed,closed_nlv]) rfl ?_
 by_cases hlen:a.l.length=b.l.length
 ·refine Wf0 hlen ?_
  refine wCnt rfl 17 a.l.length (fun _=>[]) (fun j=>(a.l.take j).map rqE=(b.l.take j).map rqE) rfl rfl ?_ ?_
  ·intro j hj hI
   obtain ⟨x,hx,kx⟩:=get_of hj
   have hjb:j < b.l.length:=by omega
   obtain ⟨y,hy,ky⟩:=get_of hjb
   have hw:=wrap_succ (show j < 9223372036854775807 by omega)
   have kc:=rqp_v hL (ka x kx) (kb y ky)
   by_cases e:rqE x=rqE y
   ·have hz:=map_snoc (e:=rqE) hx hy hI e
    rw [show rqS x y=true from decide_eq_true e] at kc
    unfold rqrow at kc
    refine Wf0 (Q5 hj hjb (iN hj) (iN hjb) (Q4 hx hy hw @rqrow_eq)) ?_
    refine opsP_any rfl (kc.at _) ?_
    rintro _ _ ⟨rfl,rfl⟩
    refine Wf0 hw ?_
    exact qR_s [] [] rfl (by simp only [Env.sh,List.map_cons,List.map_nil,ren_nlv];rfl) rfl hz
   ·rw [decide_eq_false (list_neq (e:=rqE) hx hy e)]
    rw [show rqS x y=false from decide_eq_false e] at kc
    unfold rqrow at kc
    refine Wf0 (Q5 hj hjb (iN hj) (iN hjb) (Q4 hx hy hw @rqrow_eq)) ?_
    refine opsP_any rfl (kc.at _) ?_
    rintro _ _ ⟨rfl,rfl⟩
    refine Wn0 ?_
    exact FnQ.ret rfl rfl
  ·intro hI
   refine Wf0 hlen ?_
   rw [decide_eq_true (show a.l.map rqE=b.l.map rqE by rwa [take_allq,hlen,take_allq] at hI)]
   exact FnQ.ret rfl rfl
 ·refine Wf0 hlen ?_
  rw [decide_eq_false fun h=>hlen (by simpa using congrArg List.length h)]
  exact FnQ.ret rfl rfl
theorem r11r_v {a b:Nl Dq} (ha:a.l.length < 4611686018427387904) (hb:b.l.length < 4611686018427387904) (ka:∀x∈a.l,okDq x) (kb:∀x∈b.l,okDq x):VFn L 89 [nlv dqrow 6 a,nlv dqrow 6 b] (.bool (decide (a.l.map dqE=b.l.map dqE))):=by
 refine VFn.start (F:=T89.1) (by rw [hL];rfl) rfl (by simp [V.closeds,V.closed,closed_nlv]) rfl ?_
 by_cases hlen:a.l.length=b.l.length
 ·refine Wf0 hlen ?_
  refine wCnt rfl 5 a.l.length (fun _=>[]) (fun j=>(a.l.take j).map dqE=(b.l.take j).map dqE) rfl rfl ?_ ?_
  ·intro j hj hI
   obtain ⟨x,hx,kx⟩:=get_of hj
   have hjb:j < b.l.length:=by omega
   obtain ⟨y,hy,ky⟩:=get_of hjb
   have hw:=wrap_succ (show j < 9223372036854775807 by omega)
   have hd:=dqS_eq x y
   have k1:=r04a_v hL (a:=x.had) (b:=y.had) (by have:=(ka x kx).1;omega) (by have:=(kb y ky).1;omega) (ka x kx).2.1 (kb y ky).2.1
   have k2:=rqr_v hL (x:=x.lost) (y:=y.lost) (ka x kx).2.2.1 (kb y ky).2.2.1
   have k3:=ints_v hL (a:=x.el) (b:=y.el) (by have:x.el.l.length≤_:=(ka x kx).2.2.2.1;omega) (by have:y.el.l.length≤_:=(kb y ky).2.2.2.1;omega)
   have k4:=ints_v hL (a:=x.out) (b:=y.out) (by have:x.out.l.length≤_:=(ka x kx).2.2.2.2;omega) (by have:y.out.l.length≤_:=(kb y ky).2.2.2.2;omega)
   unfold rqrow at k2
   by_cases e:dqE x=dqE y
   ·have hz:=map_snoc (e:=dqE) hx hy hI e
    rw [show dqS x y=true from decide_eq_true e] at hd
    generalize decide (x.had.l.map rqE=y.had.l.map rqE)=b1 at *
    generalize rqS x.lost y.lost=b2 at *
    generalize decide (x.el.l=y.el.l)=b3 at *
    generalize decide (x.out.l=y.out.l)=b4 at *
    revert hd
    cases b1 <;> cases b2 <;> cases b3 <;> cases b4 <;> intro hd <;> first
     | (cases hd;done)
     | (refine Wf4 (Q5 hj hjb (iN hj) (iN hjb) (Q4 hx hy hw @dqrow_eq)) k1 k2 k3 k4 ?_
        exact qR_n rfl rfl hz)
   ·rw [decide_eq_false (list_neq (e:=dqE) hx hy e)]
    rw [show dqS x y=false from decide_eq_false e] at hd
    generalize decide (x.had.l.map rqE=y.had.l.map rqE)=b1 at *
    generalize rqS x.lost y.lost=b2 at *
    generalize decide (x.el.l=y.el.l)=b3 at *
    generalize decide (x.out.l=y.out.l)=b4 at *
    revert hd
    cases b1 <;> cases b2 <;> cases b3 <;> cases b4 <;> intro hd <;> first
     | (cases hd;done)
     | (refine Wf4 (Q5 hj hjb (iN hj) (iN hjb) (Q4 hx hy hw @dqrow_eq)) k1 k2 k3 k4 ?_
        exact FnQ.ret rfl rfl)
  ·intro hI
   refine Wf0 hlen ?_
   rw [decide_eq_true (show a.l.map dqE=b.l.map dqE by rwa [take_allq,hlen,take_allq] at hI)]
   exact FnQ.ret rfl rfl
 ·refine Wf0 hlen ?_
  rw [decide_eq_false fun h=>hlen (by simpa using congrArg List.length h)]
  exact FnQ.ret rfl rfl
theorem dqp_v {x y:Dq} (hx:okDq x) (hy:okDq y):VFn L 98 [.agg (dqrow x),.agg (dqrow y)] (.bool (dqS x y)):=by
 have k1:=eqfrq_v hL (a:=x.had) (b:=y.had) (by have:=hx.1;omega) (by have:=hy.1;omega) hx.2.1 hy.2.1
 have k2:=rqp_v hL (x:=x.lost) (y:=y.lost) hx.2.2.1 hy.2.2.1
 have k3:=eqi_v hL (a:=x.el) (b:=y.el) (by have:x.el.l.length≤_:=hx.2.2.2.1;omega) (by have:y.el.l.length≤_:=hy.2.2.2.1;omega)
 have k4:=eqi_v hL (a:=x.out) (b:=y.out) (by have:x.out.l.length≤_:=hx.2.2.2.2;omega) (by have:y.out.l.length≤_:=hy.2.2.2.2;omega)
 rw [dqS_eq]
 refine VFn.start (F:=T98.1) (by rw [hL];rfl) rfl (by simp [V.closeds,V.closed,closed_nlv,dqrow,rqrow]) rfl ?_
 unfold dqrow rqrow at *
 generalize decide (x.had.l.map rqE=y.had.l.map rqE)=b1 at *
 generalize rqS x.lost y.lost=b2 at *
 generalize decide (x.el.l=y.el.l)=b3 at *
 generalize decide (x.out.l=y.out.l)=b4 at *
 cases b1 <;> cases b2 <;> cases b3 <;> cases b4 <;>
 ·refine Wn4 k1 k2 k3 k4 ?_
  exact FnQ.ret rfl rfl
theorem eqfdq_v {a b:Nl Dq} (ha:a.l.length < 4611686018427387904) (hb:b.l.length < 4611686018427387904) (ka:∀x∈a.l,okDq x) (kb:∀x∈b.l,okDq x):VFn L 101 [nlv dqrow 6 a,nlv dqrow 6 b,.fn 98 [] []] (.bool (decide (a.l.map dqE=b.l.map dqE))):=by
 refine VFn.start (F:=T101.1) (by rw [hL];rfl) rfl (by simp [V.closeds,V.closed,closed_nlv]) rfl ?_
 by_cases hlen:a.l.length=b.l.length
 ·refine Wf0 hlen ?_
  refine wCnt rfl 17 a.l.length (fun _=>[]) (fun j=>(a.l.take j).map dqE=(b.l.take j).map dqE) rfl rfl ?_ ?_
  ·intro j hj hI
   obtain ⟨x,hx,kx⟩:=get_of hj
   have hjb:j < b.l.length:=by omega
   obtain ⟨y,hy,ky⟩:=get_of hjb
   have hw:=wrap_succ (show j < 9223372036854775807 by omega)
   have kc:=dqp_v hL (ka x kx) (kb y ky)
   by_cases e:dqE x=dqE y
   ·have hz:=map_snoc (e:=dqE) hx hy hI e
    rw [show dqS x y=true from decide_eq_true e] at kc
    unfold dqrow at kc
    refine Wf0 (Q5 hj hjb (iN hj) (iN hjb) (Q4 hx hy hw @dqrow_eq)) ?_
    refine opsP_any rfl (kc.at _) ?_
    rintro _ _ ⟨rfl,rfl⟩
    refine Wf0 hw ?_
    exact qR_s [] [] rfl (by simp only [Env.sh,List.map_cons,List.map_nil,ren_nlv];rfl) rfl hz
   ·rw [decide_eq_false (list_neq (e:=dqE) hx hy e)]
    rw [show dqS x y=false from decide_eq_false e] at kc
    unfold dqrow at kc
    refine Wf0 (Q5 hj hjb (iN hj) (iN hjb) (Q4 hx hy hw @dqrow_eq)) ?_
    refine opsP_any rfl (kc.at _) ?_
    rintro _ _ ⟨rfl,rfl⟩
    refine Wn0 ?_
    exact FnQ.ret rfl rfl
  ·intro hI
   refine Wf0 hlen ?_
   rw [decide_eq_true (show a.l.map dqE=b.l.map dqE by rwa [take_allq,hlen,take_allq] at hI)]
   exact FnQ.ret rfl rfl
 ·refine Wf0 hlen ?_
  rw [decide_eq_false fun h=>hlen (by simpa using congrArg List.length h)]
  exact FnQ.ret rfl rfl
end Go.Proofs.YtigdhgbkgfagiaaGreat
namespace Go.Proofs.YtigdhgbkgfagiaaGreat
variable {L:Lib} (hL:L.T=tab.get)
include hL
theorem tqp_v {x y:Tq} (hx:okTq x) (hy:okTq y):VFn L 100 [.agg (tqrow x),.agg (tqrow y)] (.bool (tqS x y)):=by
 have k1:=eqi_v hL (a:=x.among) (b:=y.among) (by have:x.among.l.length≤_:=hx;omega) (by have:y.among.l.length≤_:=hy;omega)
 rw [tqS_eq]
 refine VFn.start (F:=T100.1) (by rw [hL];rfl) rfl (by simp [V.closeds,V.closed,closed_nlv,tqrow]) rfl ?_
 unfold tqrow at *
 by_cases e:x.chosen=y.chosen
 ·rw [decide_eq_true e,Bool.true_and]
  generalize decide (x.among.l=y.among.l)=b at *
  cases b <;>
  ·refine Wf1 e k1 ?_
   exact FnQ.ret rfl rfl
 ·rw [decide_eq_false e,Bool.false_and]
  generalize decide (x.among.l=y.among.l)=b at *
  cases b <;>
  ·refine Wf1 (ne_both e) k1 ?_
   exact FnQ.ret rfl rfl
theorem eqftq_v {a b:Nl Tq} (ha:a.l.length < 4611686018427387904) (hb:b.l.length < 4611686018427387904) (ka:∀x∈a.l,okTq x) (kb:∀x∈b.l,okTq x):VFn L 102 [nlv tqrow 2 a,nlv tqrow 2 b,.fn 100 [] []] (.bool (decide (a.l.map tqE=b.l.map tqE))):=by
 refine VFn.start (F:=T102.1) (by rw [hL];rfl) rfl (by simp [V.closeds,V.closed,closed_nlv]) rfl ?_
 by_cases hlen:a.l.length=b.l.length
 ·refine Wf0 hlen ?_
  refine wCnt rfl 17 a.l.length (fun _=>[]) (fun j=>(a.l.take j).map tqE=(b.l.take j).map tqE) rfl rfl ?_ ?_
  ·intro j hj hI
   obtain ⟨x,hx,kx⟩:=get_of hj
   have hjb:j < b.l.length:=by omega
   obtain ⟨y,hy,ky⟩:=get_of hjb
   have hw:=wrap_succ (show j < 9223372036854775807 by omega)
   have kc:=tqp_v hL (ka x kx) (kb y ky)
   by_cases e:tqE x=tqE y
   ·have hz:=map_snoc (e:=tqE) hx hy hI e
    rw [show tqS x y=true from decide_eq_true e] at kc
    unfold tqrow at kc
    refine Wf0 (Q5 hj hjb (iN hj) (iN hjb) (Q4 hx hy hw @tqrow_eq)) ?_
    refine opsP_any rfl (kc.at _) ?_
    rintro _ _ ⟨rfl,rfl⟩
    refine Wf0 hw ?_
    exact qR_s [] [] rfl (by simp only [Env.sh,List.map_cons,List.map_nil,ren_nlv];rfl) rfl hz
   ·rw [decide_eq_false (list_neq (e:=tqE) hx hy e)]
    rw [show tqS x y=false from decide_eq_false e] at kc
    unfold tqrow at kc
    refine Wf0 (Q5 hj hjb (iN hj) (iN hjb) (Q4 hx hy hw @tqrow_eq)) ?_
    refine opsP_any rfl (kc.at _) ?_
    rintro _ _ ⟨rfl,rfl⟩
    refine Wn0 ?_
    exact FnQ.ret rfl rfl
  ·intro hI
   refine Wf0 hlen ?_
   rw [decide_eq_true (show a.l.map tqE=b.l.map tqE by rwa [take_allq,hlen,take_allq] at hI)]
   exact FnQ.ret rfl rfl
 ·refine Wf0 hlen ?_
  rw [decide_eq_false fun h=>hlen (by simpa using congrArg List.length h)]
  exact FnQ.ret rfl rfl
theorem r11t_v {a b:Nl Tq} (ha:a.l.length < 4611686018427387904) (hb:b.l.length < 4611686018427387904) (ka:∀x∈a.l,okTq x) (kb:∀x∈b.l,okTq x):VFn L 90 [nlv tqrow 2 a,nlv tqrow 2 b] (.bool (decide (a.l.map tqE=b.l.map tqE))):=by
 refine VFn.start (F:=T90.1) (by rw [hL];rfl) rfl (by simp [V.closeds,V.closed,closed_nlv]) rfl ?_
 by_cases hlen:a.l.length=b.l.length
 ·refine Wf0 hlen ?_
  refine wCnt rfl 5 a.l.length (fun _=>[]) (fun j=>(a.l.take j).map tqE=(b.l.take j).map tqE) rfl rfl ?_ ?_
  ·intro j hj hI
   obtain ⟨x,hx,kx⟩:=get_of hj
   have hjb:j < b.l.length:=by omega
   obtain ⟨y,hy,ky⟩:=get_of hjb
   have hw:=wrap_succ (show j < 9223372036854775807 by omega)
   have k1:=ints_v hL (a:=x.among) (b:=y.among) (by have:x.among.l.length≤_:=(ka x kx);omega) (by have:y.among.l.length≤_:=(kb y ky);omega)
   have hd:=tqS_eq x y
   by_cases e:tqE x=tqE y
   ·have hz:=map_snoc (e:=tqE) hx hy hI e
    rw [show tqS x y=true from decide_eq_true e] at hd
    by_cases e2:x.chosen=y.chosen
    ·rw [decide_eq_true e2,Bool.true_and] at hd
     rw [←hd] at k1
     refine Wf1 (Q5 hj hjb (iN hj) (iN hjb) (Q5 hx hy hw @tqrow_eq e2)) k1 ?_
     exact qR_n rfl rfl hz
    ·rw [decide_eq_false e2] at hd
     cases hd
   ·rw [decide_eq_false (list_neq (e:=tqE) hx hy e)]
    rw [show tqS x y=false from decide_eq_false e] at hd
    by_cases e2:x.chosen=y.chosen
    ·rw [decide_eq_true e2,Bool.true_and] at hd
     rw [←hd] at k1
     refine Wf1 (Q5 hj hjb (iN hj) (iN hjb) (Q5 hx hy hw @tqrow_eq e2)) k1 ?_
     exact FnQ.ret rfl rfl
    ·refine Wf1 (Q5 hj hjb (iN hj) (iN hjb) (Q5 hx hy hw @tqrow_eq (ne_both e2))) k1 ?_
     exact FnQ.ret rfl rfl
  ·intro hI
   refine Wf0 hlen ?_
   rw [decide_eq_true (show a.l.map tqE=b.l.map tqE by rwa [take_allq,hlen,take_allq] at hI)]
   exact FnQ.ret rfl rfl
 ·refine Wf0 hlen ?_
  rw [decide_eq_false fun h=>hlen (by simpa using congrArg List.length h)]
  exact FnQ.ret rfl rfl
theorem oqr_v {x y:Oq} (hx:okOq x) (hy:okOq y):VFn L 48 [.agg (oqC x),.agg (oqC y)] (.bool (oqS x y)):=by
 have k1:=ints_v hL (a:=x.el) (b:=y.el) (by have:x.el.l.length≤_:=hx.1;omega) (by have:y.el.l.length≤_:=hy.1;omega)
 have k2:=r11r_v hL (a:=x.rounds) (b:=y.rounds) (by have:=hx.2.1.1;omega) (by have:=hy.2.1.1;omega) hx.2.1.2 hy.2.1.2
 have k3:=r11t_v hL (a:=x.ties) (b:=y.ties) (by have:=hx.2.2.1;omega) (by have:=hy.2.2.1;omega) hx.2.2.2 hy.2.2.2
 rw [show oqS x y=(decide (x.el.l=y.el.l)&&(decide (x.rounds.l.map dqE=y.rounds.l.map dqE)&&decide (x.ties.l.map tqE=y.ties.l.map tqE))) from rfl]
 refine VFn.start (F:=T48.1) (by rw [hL];rfl) rfl (by simp [V.closeds,V.closed,closed_nlv,oqC]) rfl ?_
 unfold oqC at *
 generalize decide (x.el.l=y.el.l)=b1 at *
 generalize decide (x.rounds.l.map dqE=y.rounds.l.map dqE)=b2 at *
 generalize decide (x.ties.l.map tqE=y.ties.l.map tqE)=b3 at *
 cases b1 <;> cases b2 <;> cases b3 <;>
 ·refine Wn3 k1 k2 k3 ?_
  exact FnQ.ret rfl rfl
theorem oqp_v {x y:Oq} (hx:okOq x) (hy:okOq y):VFn L 54 [.agg (oqC x),.agg (oqC y)] (.bool (oqS x y)):=by
 have k1:=eqi_v hL (a:=x.el) (b:=y.el) (by have:x.el.l.length≤_:=hx.1;omega) (by have:y.el.l.length≤_:=hy.1;omega)
 have k2:=eqfdq_v hL (a:=x.rounds) (b:=y.rounds) (by have:=hx.2.1.1;omega) (by have:=hy.2.1.1;omega) hx.2.1.2 hy.2.1.2
 have k3:=eqftq_v hL (a:=x.ties) (b:=y.ties) (by have:=hx.2.2.1;omega) (by have:=hy.2.2.1;omega) hx.2.2.2 hy.2.2.2
 rw [show oqS x y=(decide (x.el.l=y.el.l)&&(decide (x.rounds.l.map dqE=y.rounds.l.map dqE)&&decide (x.ties.l.map tqE=y.ties.l.map tqE))) from rfl]
 refine VFn.start (F:=T54.1) (by rw [hL];rfl) rfl (by simp [V.closeds,V.closed,closed_nlv,oqC]) rfl ?_
 unfold oqC at *
 generalize decide (x.el.l=y.el.l)=b1 at *
 generalize decide (x.rounds.l.map dqE=y.rounds.l.map dqE)=b2 at *
 generalize decide (x.ties.l.map tqE=y.ties.l.map tqE)=b3 at *
 cases b1 <;> cases b2 <;> cases b3 <;>
 ·refine Wn3 k1 k2 k3 ?_
  exact FnQ.ret rfl rfl
theorem bqr_v {x y:Int×Nl Int} (hx:okI8 x.2) (hy:okI8 y.2):VFn L 59 [.agg (balrow x),.agg (balrow y)] (.bool (bqS x y)):=by
 have k1:=ints_v hL (a:=x.2) (b:=y.2) (by have:x.2.l.length≤_:=hx;omega) (by have:y.2.l.length≤_:=hy;omega)
 rw [bqS_eq]
 refine VFn.start (F:=T59.1) (by rw [hL];rfl) rfl (by simp [V.closeds,V.closed,closed_nlv,balrow]) rfl ?_
 unfold balrow at *
 by_cases e:x.1=y.1
 ·rw [decide_eq_true e,Bool.true_and]
  generalize decide (x.2.l=y.2.l)=b at *
  cases b <;>
  ·refine Wf1 e k1 ?_
   exact FnQ.ret rfl rfl
 ·rw [decide_eq_false e,Bool.false_and]
  generalize decide (x.2.l=y.2.l)=b at *
  cases b <;>
  ·refine Wf1 (ne_both e) k1 ?_
   exact FnQ.ret rfl rfl
theorem bqp_v {x y:Int×Nl Int} (hx:okI8 x.2) (hy:okI8 y.2):VFn L 97 [.agg (balrow x),.agg (balrow y)] (.bool (bqS x y)):=by
 have k1:=eqi_v hL (a:=x.2) (b:=y.2) (by have:x.2.l.length≤_:=hx;omega) (by have:y.2.l.length≤_:=hy;omega)
 rw [bqS_eq]
 refine VFn.start (F:=T97.1) (by rw [hL];rfl) rfl (by simp [V.closeds,V.closed,closed_nlv,balrow]) rfl ?_
 unfold balrow at *
 by_cases e:x.1=y.1
 ·rw [decide_eq_true e,Bool.true_and]
  generalize decide (x.2.l=y.2.l)=b at *
  cases b <;>
  ·refine Wf1 e k1 ?_
   exact FnQ.ret rfl rfl
 ·rw [decide_eq_false e,Bool.false_and]
  generalize decide (x.2.l=y.2.l)=b at *
  cases b <;>
  ·refine Wf1 (ne_both e) k1 ?_
   exact FnQ.ret rfl rfl
theorem eqfbq_v {a b:Nl (Int×Nl Int)} (ha:a.l.length < 4611686018427387904) (hb:b.l.length < 4611686018427387904) (ka:∀x∈a.l,(fun p:Int×Nl Int=>okI8 p.2) x) (kb:∀x∈b.l,(fun p:Int×Nl Int=>okI8 p.2) x):VFn L 96 [nlv balrow 2 a,nlv balrow 2 b,.fn 97 [] []] (.bool (decide (a.l.map bqE=b.l.map bqE))):=by
 refine VFn.start (F:=T96.1) (by rw [hL];rfl) rfl (by simp [V.closeds,V.closed,closed_nlv]) rfl ?_
 by_cases hlen:a.l.length=b.l.length
 ·refine Wf0 hlen ?_
  refine wCnt rfl 17 a.l.length (fun _=>[]) (fun j=>(a.l.take j).map bqE=(b.l.take j).map bqE) rfl rfl ?_ ?_
  ·intro j hj hI
   obtain ⟨x,hx,kx⟩:=get_of hj
   have hjb:j < b.l.length:=by omega
   obtain ⟨y,hy,ky⟩:=get_of hjb
   have hw:=wrap_succ (show j < 9223372036854775807 by omega)
   have kc:=bqp_v hL (ka x kx) (kb y ky)
   by_cases e:bqE x=bqE y
   ·have hz:=map_snoc (e:=bqE) hx hy hI e
    rw [show bqS x y=true from decide_eq_true e] at kc
    unfold balrow at kc
    refine Wf0 (Q5 hj hjb (iN hj) (iN hjb) (Q4 hx hy hw @balrow_eq)) ?_
    refine opsP_any rfl (kc.at _) ?_
    rintro _ _ ⟨rfl,rfl⟩
    refine Wf0 hw ?_
    exact qR_s [] [] rfl (by simp only [Env.sh,List.map_cons,List.map_nil,ren_nlv];rfl) rfl hz
   ·rw [decide_eq_false (list_neq (e:=bqE) hx hy e)]
    rw [show bqS x y=false from decide_eq_false e] at kc
    unfold balrow at kc
    refine Wf0 (Q5 hj hjb (iN hj) (iN hjb) (Q4 hx hy hw @balrow_eq)) ?_
    refine opsP_any rfl (kc.at _) ?_
    rintro _ _ ⟨rfl,rfl⟩
    refine Wn0 ?_
    exact FnQ.ret rfl rfl
  ·intro hI
   refine Wf0 hlen ?_
   rw [decide_eq_true (show a.l.map bqE=b.l.map bqE by rwa [take_allq,hlen,take_allq] at hI)]
   exact FnQ.ret rfl rfl
 ·refine Wf0 hlen ?_
  rw [decide_eq_false fun h=>hlen (by simpa using congrArg List.length h)]
  exact FnQ.ret rfl rfl
end Go.Proofs.YtigdhgbkgfagiaaGreat
namespace Go.Proofs.YtigdhgbkgfagiaaGreat
def enR (x y:Int×Nl UInt8):Bool:=decide (enE x=enE y)
theorem enR_eq (x y:Int×Nl UInt8):enR x y=(decide (x.1=y.1)&&decide (x.2.l=y.2.l)):=by
 unfold enR enE
 by_cases h1:x.1=y.1 <;> by_cases h2:x.2.l=y.2.l <;> simp [h1,h2]
theorem rows_by {o:Nl UInt8} {g:Nat→Option Blk}:rowsOf 1 g (nlv byrow 1 o)=some (o.l.map byrow,[]):=by
 obtain ⟨s,c,h1,h2⟩:=nlv_tl (f:=byrow) (n:=1) (o:=o)
 rw [h1]
 rcases h2 with rfl|h2
 ·exact rowsOf_tlG
 ·rw [h2];simp [rowsOf,tl]
theorem str_by {o:Nl UInt8} {g:Nat→Option Blk}:strQ g (nlv byrow 1 o)=some (.str o.l):=by
 have h:=rows_by (o:=o) (g:=shG 1 g)
 obtain ⟨s,c,h1,h2⟩:=nlv_tl (f:=byrow) (n:=1) (o:=o)
 rw [h1] at h ⊢
 unfold strQ
 simp only [tl] at h ⊢
 simp [h,unrow_bytes]
variable {L:Lib} (hL:L.T=tab.get)
include hL
theorem enr_v {x y:Int×Nl UInt8}:VFn L 91 [.agg (enrow x),.agg (enrow y)] (.bool (enR x y)):=by
 rw [enR_eq]
 refine VFn.start (F:=T91.1) (by rw [hL];rfl) rfl (by simp [V.closeds,V.closed,closed_nlv,enrow]) rfl ?_
 unfold enrow
 by_cases e:x.1=y.1
 ·rw [decide_eq_true e,Bool.true_and]
  refine Wf0 (Q3 e @str_by @s_eql) ?_
  exact FnQ.ret rfl rfl
 ·rw [decide_eq_false e,Bool.false_and]
  refine Wf0 (ne_both e) ?_
  exact FnQ.ret rfl rfl
theorem byeq_v {a b:Nl UInt8}:VFn L 105 [nlv byrow 1 a,nlv byrow 1 b] (.bool (decide (a.l=b.l))):=by
 refine VFn.start (F:=T105.1) (by rw [hL];rfl) rfl (by simp [V.closeds,V.closed,closed_nlv]) rfl ?_
 refine Wf0 (Q2 @str_by @s_eql) ?_
 exact FnQ.ret rfl rfl
theorem enp_v {x y:Int×Nl UInt8}:VFn L 104 [.agg (enrow x),.agg (enrow y)] (.bool (enR x y)):=by
 have k1:=byeq_v hL (a:=x.2) (b:=y.2)
 rw [enR_eq]
 refine VFn.start (F:=T104.1) (by rw [hL];rfl) rfl (by simp [V.closeds,V.closed,closed_nlv,enrow]) rfl ?_
 unfold enrow
 by_cases e:x.1=y.1
 ·rw [decide_eq_true e,Bool.true_and]
  refine Wf1 e k1 ?_
  exact FnQ.ret rfl rfl
 ·rw [decide_eq_false e,Bool.false_and]
  refine Wf1 (ne_both e) k1 ?_
  exact FnQ.ret rfl rfl
theorem eqfen_v {a b:Nl (Int×Nl UInt8)} (ha:a.l.length < 4611686018427387904) (hb:b.l.length < 4611686018427387904) (ka:∀x∈a.l,okEn x) (kb:∀x∈b.l,okEn x):VFn L 103 [nlv enrow 2 a,nlv enrow 2 b,.fn 104 [] []] (.bool (decide (a.l.map enE=b.l.map enE))):=by
 refine VFn.start (F:=T103.1) (by rw [hL];rfl) rfl (by simp [V.closeds,V.closed,closed_nlv]) rfl ?_
 by_cases hlen:a.l.length=b.l.length
 ·refine Wf0 hlen ?_
  refine wCnt rfl 17 a.l.length (fun _=>[]) (fun j=>(a.l.take j).map enE=(b.l.take j).map enE) rfl rfl ?_ ?_
  ·intro j hj hI
   obtain ⟨x,hx,kx⟩:=get_of hj
   have hjb:j < b.l.length:=by omega
   obtain ⟨y,hy,ky⟩:=get_of hjb
   have hw:=wrap_succ (show j < 9223372036854775807 by omega)
   have kc:=enp_v hL (x:=x) (y:=y)
   by_cases e:enE x=enE y
   ·have hz:=map_snoc (e:=enE) hx hy hI e
    rw [show enR x y=true from decide_eq_true e] at kc
    unfold enrow at kc
    refine Wf0 (Q5 hj hjb (iN hj) (iN hjb) (Q4 hx hy hw @enrow_eq)) ?_
    refine opsP_any rfl (kc.at _) ?_
    rintro _ _ ⟨rfl,rfl⟩
    refine Wf0 hw ?_
    exact qR_s [] [] rfl (by simp only [Env.sh,List.map_cons,List.map_nil,ren_nlv];rfl) rfl hz
   ·rw [decide_eq_false (list_neq (e:=enE) hx hy e)]
    rw [show enR x y=false from decide_eq_false e] at kc
    unfold enrow at kc
    refine Wf0 (Q5 hj hjb (iN hj) (iN hjb) (Q4 hx hy hw @enrow_eq)) ?_
    refine opsP_any rfl (kc.at _) ?_
    rintro _ _ ⟨rfl,rfl⟩
    refine Wn0 ?_
    exact FnQ.ret rfl rfl
  ·intro hI
   refine Wf0 hlen ?_
   rw [decide_eq_true (show a.l.map enE=b.l.map enE by rwa [take_allq,hlen,take_allq] at hI)]
   exact FnQ.ret rfl rfl
 ·refine Wf0 hlen ?_
  rw [decide_eq_false fun h=>hlen (by simpa using congrArg List.length h)]
  exact FnQ.ret rfl rfl
theorem bop_v {a b:Nl (Int×Nl UInt8)} (ha:a.l.length < 4611686018427387904) (hb:b.l.length < 4611686018427387904) (ka:∀x∈a.l,okEn x) (kb:∀x∈b.l,okEn x):VFn L 55 [.agg [nlv enrow 2 a],.agg [nlv enrow 2 b]] (.bool (enS a b)):=by
 have k:=eqfen_v hL ha hb ka kb
 refine VFn.start (F:=T55.1) (by rw [hL];rfl) rfl (by simp [V.closeds,V.closed,closed_nlv]) rfl ?_
 unfold enS
 refine Wf1 @opval_f k ?_
 exact FnQ.ret rfl rfl
theorem bor_v {a b:Nl (Int×Nl UInt8)} (ha:a.l.length < 4611686018427387904) (hb:b.l.length < 4611686018427387904):VFn L 49 [.agg [nlv enrow 2 a],.agg [nlv enrow 2 b]] (.bool (enS a b)):=by
 unfold enS
 refine VFn.start (F:=T49.1) (by rw [hL];rfl) rfl (by simp [V.closeds,V.closed,closed_nlv]) rfl ?_
 by_cases hlen:a.l.length=b.l.length
 ·refine Wf0 hlen ?_
  refine wCnt rfl 5 a.l.length (fun _=>[]) (fun j=>(a.l.take j).map enE=(b.l.take j).map enE) rfl rfl ?_ ?_
  ·intro j hj hI
   obtain ⟨x,hx,kx⟩:=get_of hj
   have hjb:j < b.l.length:=by omega
   obtain ⟨y,hy,ky⟩:=get_of hjb
   have hw:=wrap_succ (show j < 9223372036854775807 by omega)
   have kc:=enr_v hL (x:=x) (y:=y)
   unfold enrow at kc
   by_cases e:enE x=enE y
   ·have hz:=map_snoc (e:=enE) hx hy hI e
    rw [show enR x y=true from decide_eq_true e] at kc
    refine Wf1 (Q5 hj hjb (iN hj) (iN hjb) (Q4 hx hy hw @enrow_eq)) kc ?_
    exact qR_n rfl rfl hz
   ·rw [decide_eq_false (list_neq (e:=enE) hx hy e)]
    rw [show enR x y=false from decide_eq_false e] at kc
    refine Wf1 (Q5 hj hjb (iN hj) (iN hjb) (Q4 hx hy hw @enrow_eq)) kc ?_
    exact FnQ.ret rfl rfl
  ·intro hI
   refine Wf0 hlen ?_
   rw [decide_eq_true (show a.l.map enE=b.l.map enE by rwa [take_allq,hlen,take_allq] at hI)]
   exact FnQ.ret rfl rfl
 ·refine Wf0 hlen ?_
  rw [decide_eq_false fun h=>hlen (by simpa using congrArg List.length h)]
  exact FnQ.ret rfl rfl
theorem hbp_v {x y:Hb} (hx:okHb x) (hy:okHb y):VFn L 95 [.agg (hbrow x),.agg (hbrow y)] (.bool (decide (hbE x=hbE y))):=by
 have k1:=eqfbq_v hL (a:=x.bals) (b:=y.bals) (by have:=hx.2.1;omega) (by have:=hy.2.1;omega) hx.2.2 hy.2.2
 rw [show decide (hbE x=hbE y)=(decide (x.name=y.name)&&decide (x.bals.l.map bqE=y.bals.l.map bqE)) by unfold hbE;by_cases h1:x.name=y.name <;> by_cases h2:x.bals.l.map bqE=y.bals.l.map bqE <;> simp [h1,h2]]
 refine VFn.start (F:=T95.1) (by rw [hL];rfl) rfl (by simp [V.closeds,V.closed,closed_nlv,hbrow]) rfl ?_
 have e1:=s_eql (x:=x.name) (y:=y.name)
 unfold hbrow
 generalize decide (x.name=y.name)=b1 at *
 generalize decide (x.bals.l.map bqE=y.bals.l.map bqE)=b2 at *
 cases b1 <;> cases b2 <;>
 ·refine Wf1 (Q2 e1 @opval_f) k1 ?_
  exact FnQ.ret rfl rfl
theorem eqfhb_v {a b:Nl Hb} (ha:a.l.length < 4611686018427387904) (hb:b.l.length < 4611686018427387904) (ka:∀x∈a.l,okHb x) (kb:∀x∈b.l,okHb x):VFn L 94 [nlv hbrow 2 a,nlv hbrow 2 b,.fn 95 [] []] (.bool (decide (a.l.map hbE=b.l.map hbE))):=by
 refine VFn.start (F:=T94.1) (by rw [hL];rfl) rfl (by simp [V.closeds,V.closed,closed_nlv]) rfl ?_
 by_cases hlen:a.l.length=b.l.length
 ·refine Wf0 hlen ?_
  refine wCnt rfl 17 a.l.length (fun _=>[]) (fun j=>(a.l.take j).map hbE=(b.l.take j).map hbE) rfl rfl ?_ ?_
  ·intro j hj hI
   obtain ⟨x,hx,kx⟩:=get_of hj
   have hjb:j < b.l.length:=by omega
   obtain ⟨y,hy,ky⟩:=get_of hjb
   have hw:=wrap_succ (show j < 9223372036854775807 by omega)
   have kc:=hbp_v hL (ka x kx) (kb y ky)
   by_cases e:hbE x=hbE y
   ·have hz:=map_snoc (e:=hbE) hx hy hI e
    rw [decide_eq_true e] at kc
    unfold hbrow at kc
    refine Wf0 (Q5 hj hjb (iN hj) (iN hjb) (Q4 hx hy hw @hbrow_eq)) ?_
    refine opsP_any rfl (kc.at _) ?_
    rintro _ _ ⟨rfl,rfl⟩
    refine Wf0 hw ?_
    exact qR_s [] [] rfl (by simp only [Env.sh,List.map_cons,List.map_nil,ren_nlv];rfl) rfl hz
   ·rw [decide_eq_false (list_neq (e:=hbE) hx hy e)]
    rw [decide_eq_false e] at kc
    unfold hbrow at kc
    refine Wf0 (Q5 hj hjb (iN hj) (iN hjb) (Q4 hx hy hw @hbrow_eq)) ?_
    refine opsP_any rfl (kc.at _) ?_
    rintro _ _ ⟨rfl,rfl⟩
    refine Wn0 ?_
    exact FnQ.ret rfl rfl
  ·intro hI
   refine Wf0 hlen ?_
   rw [decide_eq_true (show a.l.map hbE=b.l.map hbE by rwa [take_allq,hlen,take_allq] at hI)]
   exact FnQ.ret rfl rfl
 ·refine Wf0 hlen ?_
  rw [decide_eq_false fun h=>hlen (by simpa using congrArg List.length h)]
  exact FnQ.ret rfl rfl
theorem rep_v {a b:Nl Hb} (ha:a.l.length < 4611686018427387904) (hb:b.l.length < 4611686018427387904) (ka:∀x∈a.l,okHb x) (kb:∀x∈b.l,okHb x):VFn L 52 [nlv hbrow 2 a,nlv hbrow 2 b] (.bool (hbS a b)):=by
 have k:=eqfhb_v hL ha hb ka kb
 refine VFn.start (F:=T52.1) (by rw [hL];rfl) rfl (by simp [V.closeds,V.closed,closed_nlv]) rfl ?_
 unfold hbS
 refine Wf1 @opval_f k ?_
 exact FnQ.ret rfl rfl
end Go.Proofs.YtigdhgbkgfagiaaGreat
