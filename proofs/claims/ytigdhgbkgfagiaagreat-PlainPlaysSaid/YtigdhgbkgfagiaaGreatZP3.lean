/- Begin, by the program, walked. · Sheets: Boxes, Check, Most, wide, by the program, walked. -/
import Derived.Test.YtigdhgbkgfagiaaGreatZM1
import Derived.Test.YtigdhgbkgfagiaaGreatZM2
import Derived.Test.YtigdhgbkgfagiaaGreatZP2
import Derived.Test.YtigdhgbkgfagiaaGreatZRl
set_option maxRecDepth 100000
set_option maxHeartbeats 4000000
set_option linter.unusedVariables false
set_option linter.unusedSimpArgs false
namespace Go.Proofs.YtigdhgbkgfagiaaGreat
def nilV:V:=.lst 0 [] (some 0)
def restC (stage:Int):List V:=.int .u8 stage::nilV::nilV::List.replicate 32 (.int .u8 0)++[nilV,nilV,nilV,nilV,nilV]
def tmT (t:Tm):List V:=[.str t.name,clV srow 1 t.cands,.int .i64 t.seats,.int .u8 t.rule,.int .u8 t.lo,.int .u8 t.hi,.int .i64 t.skips,.bool t.dneg,clV nrow 1 t.dnum,clV nrow 1 t.dden,.bool t.lneg,clV nrow 1 t.lnum,clV nrow 1 t.lden,clV mrow 1 t.rounds]
def zeroTm:List V:=[.str [],nilV,.int .i64 0,.int .u8 0,.int .u8 0,.int .u8 0,.int .i64 0,.bool false,nilV,nilV,.bool false,nilV,nilV,nilV]
def begV (t:Tm):V:=if okTerms t then .tup [.agg (tmT t++restC 1),.int .i64 0] else .tup [.agg (zeroTm++restC 0),.int .i64 8]
theorem closed_tup2 {v:V} {k:IntKind} {n:Int} (h:v.closed=true):V.closed (.tup [v,.int k n])=true:=by simp [V.closed,V.closeds,h]
variable {L:Lib} (hL:L.T=tab.get)
include hL
theorem ctTwin_v {name:List UInt8} {o:Nl (List UInt8)} {seats rule:Int} (hl:o.l.length≤8796093022208):VFn L 37 [.agg [.str name,nlv srow 1 o,.int .i64 seats,.int .u8 rule]] (.agg [.str name,clV srow 1 o,.int .i64 seats,.int .u8 rule]):=by
 have kc:=cloneS_v hL hl
 have hv:=isVal_clV (f:=srow) (n:=1) (o:=o)
 have hc:=cells_clV (f:=srow) (n:=1) (o:=o)
 have hcl:=closed_clV (f:=srow) (n:=1) (o:=o)
 generalize clV srow 1 o=r at *
 refine VFn.start (F:=T37.1) (by rw [hL];rfl) rfl (by simp [V.closeds,V.closed,closed_nlv]) (by simp [V.closed,V.closeds,hcl]) ?_
 refine Wf1 (Q2 hv hc) kc ?_
 exact FnQ.frz [] rfl (V.ren_closed _ (by simp [V.closed,V.closeds,hcl]))
theorem frTwin_v {neg:Bool} {a b:Nl Nat} (ha:a.l.length≤35184372088832) (hb:b.l.length≤35184372088832):VFn L 38 [.agg [.bool neg,nlv nrow 1 a,nlv nrow 1 b]] (.agg [.bool neg,clV nrow 1 a,clV nrow 1 b]):=by
 have kc:=cloneN_v hL ha
 have kd:=cloneN_v hL hb
 have hv:=isVal_clV (f:=nrow) (n:=1) (o:=a)
 have hc:=cells_clV (f:=nrow) (n:=1) (o:=a)
 have hcl:=closed_clV (f:=nrow) (n:=1) (o:=a)
 have hv':=isVal_clV (f:=nrow) (n:=1) (o:=b)
 have hc':=cells_clV (f:=nrow) (n:=1) (o:=b)
 have hcl':=closed_clV (f:=nrow) (n:=1) (o:=b)
 generalize clV nrow 1 a=r at *
 generalize clV nrow 1 b=q at *
 refine VFn.start (F:=T38.1) (by rw [hL];rfl) rfl (by simp [V.closeds,V.closed,closed_nlv]) (by simp [V.closed,V.closeds,hcl,hcl']) ?_
 refine Wf2 (Q4 hv hc hv' hc') kc kd ?_
 exact FnQ.frz [] rfl (V.ren_closed _ (by simp [V.closed,V.closeds,hcl,hcl']))
theorem voter0_v:VFn L 40 [.lst 0 [] (some 0)] (.lst 0 [] (some 0)):=by
 refine VFn.start (F:=T40.1) (by rw [hL];rfl) rfl rfl rfl ?_
 refine Wn0 ?_
 exact FnQ.ret rfl rfl
theorem batch0_v:VFn L 80 [.lst 0 [] (some 0)] (.lst 0 [] (some 0)):=by
 refine VFn.start (F:=T80.1) (by rw [hL];rfl) rfl rfl rfl ?_
 refine Wn0 ?_
 exact FnQ.ret rfl rfl
theorem record0_v:VFn L 41 [.lst 0 [] (some 0)] (.lst 0 [] (some 0)):=by
 have kc:=batch0_v hL
 refine VFn.start (F:=T41.1) (by rw [hL];rfl) rfl rfl rfl ?_
 refine Wn1 kc ?_
 refine wRoll 1 rfl ?_
 refine Wf0 @Rn_s ?_
 exact FnQ.ret rfl rfl
theorem board0_v:VFn L 43 [.agg [.lst 0 [] (some 0)]] (.agg [.lst 0 [] (some 0)]):=by
 refine VFn.start (F:=T43.1) (by rw [hL];rfl) rfl rfl rfl ?_
 refine Wn0 ?_
 refine wRoll 1 rfl ?_
 refine Wn0 ?_
 exact FnQ.ret rfl rfl
theorem ints0_v:VFn L 39 [.lst 0 [] (some 0)] (.lst 0 [] (some 0)):=by
 refine VFn.start (F:=T39.1) (by rw [hL];rfl) rfl rfl rfl ?_
 refine Wn0 ?_
 exact FnQ.ret rfl rfl
theorem round0_v:VFn L 83 [.lst 0 [] (some 0)] (.lst 0 [] (some 0)):=by
 refine VFn.start (F:=T83.1) (by rw [hL];rfl) rfl rfl rfl ?_
 refine Wn0 ?_
 exact FnQ.ret rfl rfl
theorem tie0_v:VFn L 84 [.lst 0 [] (some 0)] (.lst 0 [] (some 0)):=by
 refine VFn.start (F:=T84.1) (by rw [hL];rfl) rfl rfl rfl ?_
 refine Wn0 ?_
 exact FnQ.ret rfl rfl
theorem count0_v:VFn L 42 [.agg [.lst 0 [] (some 0),.lst 0 [] (some 0),.lst 0 [] (some 0)]] (.agg [.lst 0 [] (some 0),.lst 0 [] (some 0),.lst 0 [] (some 0)]):=by
 have k1:=ints0_v hL
 have k2:=round0_v hL
 have k3:=tie0_v hL
 refine VFn.start (F:=T42.1) (by rw [hL];rfl) rfl rfl rfl ?_
 refine Wn3 k1 k2 k3 ?_
 refine wRoll 1 rfl ?_
 refine Wn0 ?_
 refine wRoll 1 rfl ?_
 refine Wn0 ?_
 exact FnQ.ret rfl rfl
theorem eTwin0_v {t:Tm} (ht:okTm t):VFn L 13 [.agg (tmC t++restC 1)] (.agg (tmT t++restC 1)):=by
 have k1:=ctTwin_v hL (name:=t.name) (seats:=t.seats) (rule:=t.rule) ht.cands
 have k2:=frTwin_v hL (neg:=t.dneg) ht.dnum ht.dden
 have k3:=frTwin_v hL (neg:=t.lneg) ht.lnum ht.lden
 have k4:=cloneI_v hL ht.rounds
 have k5:=voter0_v hL
 have k6:=record0_v hL
 have k7:=ints0_v hL
 have k8:=count0_v hL
 have k9:=board0_v hL
 have v1:=isVal_clV (f:=srow) (n:=1) (o:=t.cands)
 have v2:=isVal_clV (f:=nrow) (n:=1) (o:=t.dnum)
 have v3:=isVal_clV (f:=nrow) (n:=1) (o:=t.dden)
 have v4:=isVal_clV (f:=nrow) (n:=1) (o:=t.lnum)
 have v5:=isVal_clV (f:=nrow) (n:=1) (o:=t.lden)
 have v6:=isVal_clV (f:=mrow) (n:=1) (o:=t.rounds)
 have c1:=cells_clV (f:=srow) (n:=1) (o:=t.cands)
 have c2:=cells_clV (f:=nrow) (n:=1) (o:=t.dnum)
 have c3:=cells_clV (f:=nrow) (n:=1) (o:=t.dden)
 have c4:=cells_clV (f:=nrow) (n:=1) (o:=t.lnum)
 have c5:=cells_clV (f:=nrow) (n:=1) (o:=t.lden)
 have c6:=cells_clV (f:=mrow) (n:=1) (o:=t.rounds)
 have d1:=closed_clV (f:=srow) (n:=1) (o:=t.cands)
 have d2:=closed_clV (f:=nrow) (n:=1) (o:=t.dnum)
 have d3:=closed_clV (f:=nrow) (n:=1) (o:=t.dden)
 have d4:=closed_clV (f:=nrow) (n:=1) (o:=t.lnum)
 have d5:=closed_clV (f:=nrow) (n:=1) (o:=t.lden)
 have d6:=closed_clV (f:=mrow) (n:=1) (o:=t.rounds)
 have e1:=closed_nlv (f:=srow) (n:=1) (o:=t.cands)
 have e2:=closed_nlv (f:=nrow) (n:=1) (o:=t.dnum)
 have e3:=closed_nlv (f:=nrow) (n:=1) (o:=t.dden)
 have e4:=closed_nlv (f:=nrow) (n:=1) (o:=t.lnum)
 have e5:=closed_nlv (f:=nrow) (n:=1) (o:=t.lden)
 have e6:=closed_nlv (f:=mrow) (n:=1) (o:=t.rounds)
 have f1:=cells_nlv (f:=srow) (n:=1) (o:=t.cands)
 have f2:=cells_nlv (f:=nrow) (n:=1) (o:=t.dnum)
 have f3:=cells_nlv (f:=nrow) (n:=1) (o:=t.dden)
 have f4:=cells_nlv (f:=nrow) (n:=1) (o:=t.lnum)
 have f5:=cells_nlv (f:=nrow) (n:=1) (o:=t.lden)
 have f6:=cells_nlv (f:=mrow) (n:=1) (o:=t.rounds)
 have hcl:V.closed (.agg (tmT t++restC 1))=true:=by simp [tmT,restC,nilV,V.closed,V.closeds,List.replicate_succ,d1,d2,d3,d4,d5,d6]
 have hcl':V.closeds [.agg (tmC t++restC 1)]=true:=by simp [tmC,restC,nilV,V.closed,V.closeds,List.replicate_succ,e1,e2,e3,e4,e5,e6]
 unfold tmC tmT restC nilV at *
 simp only [List.replicate_succ,List.replicate_zero,List.cons_append,List.nil_append] at *
 generalize clV srow 1 t.cands=w1 at *
 generalize clV nrow 1 t.dnum=w2 at *
 generalize clV nrow 1 t.dden=w3 at *
 generalize clV nrow 1 t.lnum=w4 at *
 generalize clV nrow 1 t.lden=w5 at *
 generalize clV mrow 1 t.rounds=w6 at *
 generalize nlv srow 1 t.cands=u1 at *
 generalize nlv nrow 1 t.dnum=u2 at *
 generalize nlv nrow 1 t.dden=u3 at *
 generalize nlv nrow 1 t.lnum=u4 at *
 generalize nlv nrow 1 t.lden=u5 at *
 generalize nlv mrow 1 t.rounds=u6 at *
 refine VFn.start (F:=T13.1) (by rw [hL];rfl) rfl hcl' hcl ?_
 (repeat' (first|refine Z0 ?_|refine Z3 ?_|refine Z2 ?_|refine opsV_call rfl rfl (k1) ?_|refine opsV_call rfl rfl (k2) ?_|refine opsV_call rfl rfl (k3) ?_|refine opsV_call rfl rfl (k4) ?_|refine opsV_call rfl rfl (k5) ?_|refine opsV_call rfl rfl (k6) ?_|refine opsV_call rfl rfl (k7) ?_|refine opsV_call rfl rfl (k8) ?_|refine opsV_call rfl rfl (k9) ?_|simp only [seval,push_cast,↓reduceIte,↓bP_some,↓aP_true,reduceCtorEq,v1,v2,v3,v4,v5,v6,c1,c2,c3,c4,c5,c6]))
 exact FnQ.frz [] rfl (V.ren_closed _ hcl)
theorem begin_v {t:Tm} (ht:okTm t):VFn L 9 [.agg (tmC t)] (begV t):=by
 have k1:=terms_v hL ht
 have k2:=eTwin0_v hL ht
 have e1:=closed_nlv (f:=srow) (n:=1) (o:=t.cands)
 have e2:=closed_nlv (f:=nrow) (n:=1) (o:=t.dnum)
 have e3:=closed_nlv (f:=nrow) (n:=1) (o:=t.dden)
 have e4:=closed_nlv (f:=nrow) (n:=1) (o:=t.lnum)
 have e5:=closed_nlv (f:=nrow) (n:=1) (o:=t.lden)
 have e6:=closed_nlv (f:=mrow) (n:=1) (o:=t.rounds)
 have f1:=cells_nlv (f:=srow) (n:=1) (o:=t.cands)
 have f2:=cells_nlv (f:=nrow) (n:=1) (o:=t.dnum)
 have f3:=cells_nlv (f:=nrow) (n:=1) (o:=t.dden)
 have f4:=cells_nlv (f:=nrow) (n:=1) (o:=t.lnum)
 have f5:=cells_nlv (f:=nrow) (n:=1) (o:=t.lden)
 have f6:=cells_nlv (f:=mrow) (n:=1) (o:=t.rounds)
 have hcl:=k2.2.1
 have hcl':=k1.1
 unfold begV
 unfold tmC tmT restC zeroTm nilV at *
 simp only [List.replicate_succ,List.replicate_zero,List.cons_append,List.nil_append] at *
 generalize clV srow 1 t.cands=w1 at *
 generalize clV nrow 1 t.dnum=w2 at *
 generalize clV nrow 1 t.dden=w3 at *
 generalize clV nrow 1 t.lnum=w4 at *
 generalize clV nrow 1 t.lden=w5 at *
 generalize clV mrow 1 t.rounds=w6 at *
 generalize nlv srow 1 t.cands=u1 at *
 generalize nlv nrow 1 t.dnum=u2 at *
 generalize nlv nrow 1 t.dden=u3 at *
 generalize nlv nrow 1 t.lnum=u4 at *
 generalize nlv nrow 1 t.lden=u5 at *
 generalize nlv mrow 1 t.rounds=u6 at *
 generalize okTerms t=b at *
 cases b with
 | true=>
  refine VFn.start (F:=T9.1) (by rw [hL];rfl) rfl hcl' (closed_tup2 hcl) ?_
  rw [if_pos rfl]
  refine Wn2 k1 k2 ?_
  exact FnQ.frz [] rfl (V.ren_closed _ (closed_tup2 hcl))
 | false=>
  refine VFn.start (F:=T9.1) (by rw [hL];rfl) rfl hcl' (by rfl) ?_
  rw [if_neg (by simp)]
  refine Wn1 k1 ?_
  exact FnQ.frz [] rfl rfl
end Go.Proofs.YtigdhgbkgfagiaaGreat
namespace Go.Proofs.YtigdhgbkgfagiaaGreat
def urow (x:Int):List V:=[.int .u8 x]
theorem urow_eq (x:Int):urow x=[.int .u8 x]:=rfl
def wideF (kind:Int) (n:Nat):Nat:=if kind=1 then n else if kind=3 then 11 else 1
def boxesN (c:Ct):Nat:=c.cands.length*wideF (kindR c.rule) c.cands.length
def mostF (c:Ct):Nat:=if aloneR c.rule then 1 else c.cands.length
def shCheck (c:Ct) (B:List Int):Int:=if checkC c=0 then (if B.length≠boxesN c∨B.any (fun b=>decide (100 < b))=true then 8 else 0) else checkC c
theorem check_len {c:Ct} (h:checkC c=0):1≤c.cands.length∧c.cands.length≤10∧(seatsR c.rule=1∨seatsR c.rule=2∨seatsR c.rule=3):=by
 unfold checkC at h
 by_cases h1:10 < c.cands.length
 ·rw [if_pos h1] at h;cases h
 ·rw [if_neg h1] at h
  by_cases h2:okCt c=true
  ·unfold okCt at h2
   simp only [Bool.and_eq_true,Bool.not_eq_true',decide_eq_false_iff_not] at h2
   obtain ⟨a1,a2,a3,a4,a5⟩:=h2
   refine ⟨List.length_pos_iff.2 a1,by omega,?_⟩
   unfold fitsC at a5
   simp only [Bool.and_eq_true] at a5
   have a6:=a5.2
   by_cases b1:seatsR c.rule=1
   ·exact .inl b1
   ·rw [if_neg b1] at a6
    by_cases b2:seatsR c.rule=2
    ·exact .inr (.inl b2)
    ·rw [if_neg b2] at a6
     exact .inr (.inr (by simpa using a6))
  ·rw [if_neg h2] at h;cases h
theorem wide_le {k:Int} {n:Nat} (h:n≤10):wideF k n≤11:=by unfold wideF;split <;> (try split) <;> omega
theorem wide_pos {k:Int} {n:Nat} (h:1≤n):1≤wideF k n:=by unfold wideF;split <;> (try split) <;> omega
variable {L:Lib} (hL:L.T=tab.get)
include hL
theorem wide_v {k:Int} {n:Nat}:VFn L 174 [.int .u8 k,.int .i64 n] (.int .i64 (wideF k n)):=by
 unfold wideF
 refine VFn.start (F:=T174.1) (by rw [hL];rfl) rfl rfl rfl ?_
 by_cases h1:k=1
 ·subst h1
  refine Wn0 ?_
  exact FnQ.ret rfl rfl
 ·rw [if_neg h1]
  by_cases h3:k=3
  ·subst h3
   refine Wf0 h1 ?_
   exact FnQ.ret rfl rfl
  ·rw [if_neg h3]
   refine Wf0 (Q2 h1 h3) ?_
   exact FnQ.ret rfl rfl
theorem most_v {c:Ct} (hr:c.rule < 256) (h:checkC c=0):VFn L 173 [.int .u8 c.rule,.int .i64 c.cands.length] (.tup [.int .i64 (mostF c),.int .i64 0]):=by
 obtain ⟨l1,l2,l3⟩:=check_len h
 have ko:=of_v hL hr
 unfold ruleW at ko
 unfold mostF
 have h0:¬seatsR c.rule=0:=by omega
 have m1:¬(c.cands.length:Int) < 1:=by omega
 have m2:¬(10:Int) < c.cands.length:=by omega
 refine VFn.start (F:=T173.1) (by rw [hL];rfl) rfl rfl rfl ?_
 cases ha:aloneR c.rule with
 | true=>
  rw [ha] at ko
  refine Wf1 (Q3 h0 m1 m2) ko ?_
  exact FnQ.ret rfl rfl
 | false=>
  rw [ha] at ko
  refine Wf1 (Q3 h0 m1 m2) ko ?_
  exact FnQ.ret rfl rfl
theorem boxes_v {c:Ct} {s:Nat} {k:Option Nat} (hs:s=1∨c.cands=[]) (hl:c.cands.length < 4611686018427387904) (hr:c.rule < 256):VFn L 198 [.agg (ctC c s k)] (.tup [.int .i64 (if checkC c=0 then (boxesN c:Int) else 0),.int .i64 (checkC c)]):=by
 have k1:=ctCheck_v hL (k:=k) hs hl hr
 by_cases h:checkC c=0
 ·obtain ⟨l1,l2,l3⟩:=check_len h
  have k2:=kind_v hL hr
  rw [if_neg (show ¬seatsR c.rule=0 by omega),if_neg (show ¬seatsR c.rule=0 by omega)] at k2
  have k3:=wide_v hL (k:=kindR c.rule) (n:=c.cands.length)
  have hw:IntKind.i64.wrap ((c.cands.length:Int)*(wideF (kindR c.rule) c.cands.length:Int))=(boxesN c:Int):=by
   have w1:=wide_le (k:=kindR c.rule) l2
   unfold boxesN
   rw [←Int.natCast_mul]
   exact wrap_nat (Nat.lt_of_le_of_lt (Nat.mul_le_mul l2 w1) (by decide))
  rw [if_pos h]
  rw [h] at k1 ⊢
  generalize boxesN c=q at *
  generalize wideF (kindR c.rule) c.cands.length=u at *
  generalize kindR c.rule=v at *
  clear h
  obtain ⟨name,cands,seats,rule⟩:=c
  unfold ctC at *
  simp only at *
  refine VFn.start (F:=T198.1) (by rw [hL];rfl) rfl rfl rfl ?_
  refine Wf3 hw k1 k2 k3 ?_
  exact FnQ.frz [] rfl rfl
 ·rw [if_neg h]
  generalize checkC c=e at *
  obtain ⟨name,cands,seats,rule⟩:=c
  unfold ctC at *
  simp only at *
  refine VFn.start (F:=T198.1) (by rw [hL];rfl) rfl rfl rfl ?_
  refine Wf1 h k1 ?_
  exact FnQ.frz [] rfl rfl
theorem dark_v (b:Int):VFn L 199 [.int .u8 b] (.bool (decide (100 < b))):=by
 refine VFn.start (F:=T199.1) (by rw [hL];rfl) rfl rfl rfl ?_
 refine Wn0 ?_
 exact FnQ.ret rfl rfl
theorem containsU_v {s:Nat} {l:List Int} {c:Option Nat} (hs:s=1∨l=[]) (hl:l.length < 4611686018427387904):VFn L 154 [tl urow s l c,.fn 199 [] []] (.bool (l.any fun b=>decide (100 < b))):=by
 refine VFn.start (F:=T154.1) (by rw [hL];rfl) rfl rfl rfl ?_
 refine Wn0 ?_
 refine opsP_all rfl (indexFuncG_a hL (k:=186) (H:=[]) (fs:=[]) (cs:=[]) (p:=fun b=>decide (100 < b)) rfl (IsG.tl (g:=V.int .u8) (fun _=>rfl) hs) hl (fun x _=>(dark_v hL x).at _)) ?_
 rintro r h' ⟨rfl,rfl⟩
 rw [←findG_any l 0]
 refine Wn0 ?_
 exact FnQ.ret rfl rfl
theorem shCheck_v {c:Ct} {s:Nat} {k:Option Nat} {s':Nat} {B:List Int} {k':Option Nat} (hs:s=1∨c.cands=[]) (hl:c.cands.length < 4611686018427387904) (hr:c.rule < 256) (hs':s'=1∨B=[]) (hB:B.length < 4611686018427387904):VFn L 171 [.agg (ctC c s k),.agg [tl urow s' B k']] (.int .i64 (shCheck c B)):=by
 have k1:=boxes_v hL (k:=k) hs hl hr
 have k2:=containsU_v hL (c:=k') hs' hB
 unfold shCheck
 by_cases h:checkC c=0
 ·rw [if_pos h]
  rw [if_pos h,h] at k1
  clear h
  generalize boxesN c=q at *
  generalize (B.any fun b=>decide (100 < b))=v at *
  obtain ⟨name,cands,seats,rule⟩:=c
  unfold ctC at *
  simp only at *
  by_cases h1:B.length=q
  ·have h1':(B.length:Int)=q:=by omega
   cases v with
   | true=>
    rw [if_pos (.inr rfl)]
    refine VFn.start (F:=T171.1) (by rw [hL];rfl) rfl rfl rfl ?_
    refine Wf2 h1' k1 k2 ?_
    exact FnQ.frz [] rfl rfl
   | false=>
    rw [if_neg (by simp [h1])]
    refine VFn.start (F:=T171.1) (by rw [hL];rfl) rfl rfl rfl ?_
    refine Wf2 h1' k1 k2 ?_
    exact FnQ.frz [] rfl rfl
  ·have h1':¬(B.length:Int)=q:=by omega
   rw [if_pos (.inl h1)]
   refine VFn.start (F:=T171.1) (by rw [hL];rfl) rfl rfl rfl ?_
   refine Wf1 h1' k1 ?_
   exact FnQ.frz [] rfl rfl
 ·rw [if_neg h]
  rw [if_neg h] at k1
  generalize checkC c=e at *
  obtain ⟨name,cands,seats,rule⟩:=c
  unfold ctC at *
  simp only at *
  refine VFn.start (F:=T171.1) (by rw [hL];rfl) rfl rfl rfl ?_
  refine Wf1 h k1 ?_
  exact FnQ.frz [] rfl rfl
end Go.Proofs.YtigdhgbkgfagiaaGreat
