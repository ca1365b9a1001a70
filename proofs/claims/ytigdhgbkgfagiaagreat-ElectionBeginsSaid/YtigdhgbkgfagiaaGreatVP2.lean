/- Terms of an election: part, terms, by the program, walked. · Terms of an election: terms, Begin, by the program, walked. -/
import Derived.Test.YtigdhgbkgfagiaaGreatVM2
import Derived.Test.YtigdhgbkgfagiaaGreatVP1
set_option maxRecDepth 100000
set_option maxHeartbeats 4000000
set_option linter.unusedVariables false
set_option linter.unusedSimpArgs false
namespace Go.Proofs.YtigdhgbkgfagiaaGreat
theorem isnil_tlG {α:Type} {f:α→List V} {s:Nat} {l:List α} {c:Option Nat} (h:l≠[]):isnilQ 0 false (tl f s l c)=some (.bool false):=by
 have:¬l.length=0:=fun e=>h (List.length_eq_zero_iff.1 e)
 simp [isnilQ,isnilV,tl,this,h]
theorem rowsOf_tlG {α:Type} {f:α→List V} {s:Nat} {l:List α} {c:Option Nat} {g:Nat→Option Blk}:rowsOf s g (tl f s l c)=some (l.map f,[]):=by
 unfold tl
 simp [rowsOf]
structure Tm where
 name:List UInt8
 cands:Nl (List UInt8)
 seats:Int
 rule:Nat
 lo:Nat
 hi:Nat
 skips:Int
 dneg:Bool
 dnum:Nl Nat
 dden:Nl Nat
 lneg:Bool
 lnum:Nl Nat
 lden:Nl Nat
 rounds:Nl Int
def Tm.ct (t:Tm):Ct:=⟨t.name,t.cands.l,t.seats,t.rule⟩
def Tm.due (t:Tm):Fr:=⟨t.dneg,t.dnum.l,t.dden.l⟩
def Tm.lim (t:Tm):Fr:=⟨t.lneg,t.lnum.l,t.lden.l⟩
def tmC (t:Tm):List V:=[.str t.name,nlv srow 1 t.cands,.int .i64 t.seats,.int .u8 t.rule,.int .u8 t.lo,.int .u8 t.hi,.int .i64 t.skips,.bool t.dneg,nlv nrow 1 t.dnum,nlv nrow 1 t.dden,.bool t.lneg,nlv nrow 1 t.lnum,nlv nrow 1 t.lden,nlv mrow 1 t.rounds]
structure okTm (t:Tm):Prop where
 rule:t.rule < 256
 lo:t.lo < 256
 hi:t.hi < 256
 cands:t.cands.l.length≤8796093022208
 dnum:t.dnum.l.length≤35184372088832
 dden:t.dden.l.length≤35184372088832
 lnum:t.lnum.l.length≤35184372088832
 lden:t.lden.l.length≤35184372088832
 rounds:t.rounds.l.length≤17592186044416
 dl:limOk t.dnum.l∧limOk t.dden.l
 ll:limOk t.lnum.l∧limOk t.lden.l
def okPol (t:Tm):Prop:=1≤t.lo∧t.lo≤t.hi∧t.hi≤100∧0≤t.skips∧t.skips≤10
instance (t:Tm):Decidable (okPol t):=by unfold okPol;infer_instance
def partF (x:Fr):Bool:=decide (okFr x)&&(!x.neg&&decide (x.num.length≤8∧x.den.length≤8))
def oneFr:Fr:=⟨false,[1],[1]⟩
def oddR (n:Int):Bool:=decide (n < 1∨1024 < n)
def okTerms (t:Tm):Bool:=decide (checkC t.ct=0)&&(decide (okPol t)&&(partF t.due&&(partF t.lim&&(!decide (t.lim.num=[])&&(decide (cmpFr t.lim oneFr < 0)&&(decide (1≤t.rounds.l.length∧t.rounds.l.length≤8)&&!t.rounds.l.any oddR))))))
theorem okFr_one:okFr oneFr:=by
 refine ⟨by decide,by decide,by decide,by decide,?_⟩
 show Nat.gcd (valN [1]) (valN [1])=1
 simp [valN]
variable {L:Lib} (hL:L.T=tab.get)
include hL
theorem containsI_a {H:Heap} {v:V} {l:List Int} {kf:Nat} {fs cs:List V} {p:Int→Bool} (hv:IsG (V.int .i64) H v l) (hl:l.length < 4611686018427387904) (hf:∀x∈l,AFn L (.fn kf) (fs++[.int .i64 x]++cs) H (fun r H'=>r=.bool (p x)∧H'=H)):AFn L (.fn 29) [v,.fn kf fs cs] H (fun r H'=>r=.bool (l.any p)∧H'=H):=by
 refine AFn.of_body (F:=T29.1) (by rw [hL];rfl) rfl ?_
 refine Wn0 ?_
 refine opsP_all rfl (indexFuncG_a hL (k:=74) rfl hv hl hf) ?_
 rintro r h' ⟨rfl,rfl⟩
 rw [←findG_any l 0]
 refine Wn0 ?_
 exact FnQ.at rfl ⟨rfl,rfl⟩
theorem oddR_v (n:Int):VFn L 68 [.int .i64 n] (.bool (oddR n)):=by
 unfold oddR
 refine VFn.start (F:=T68.1) (by rw [hL];rfl) rfl rfl rfl ?_
 by_cases h1:n < 1
 ·rw [decide_eq_true (by omega)]
  refine Wf0 h1 ?_
  exact FnQ.ret rfl rfl
 ·by_cases h2:1024 < n
  ·rw [decide_eq_true (by omega)]
   refine Wf0 (Q2 h1 h2) ?_
   exact FnQ.ret rfl rfl
  ·rw [decide_eq_false (by omega)]
   refine Wf0 (Q2 h1 h2) ?_
   exact FnQ.ret rfl rfl
theorem oddRs_v {s:Nat} {l:List Int} {c:Option Nat} (hs:s=1∨l=[]) (hl:l.length < 4611686018427387904):VFn L 29 [tl mrow s l c,.fn 68 [] []] (.bool (l.any oddR)):=
 ⟨rfl,rfl,containsI_a hL (H:=[]) (fs:=[]) (cs:=[]) (p:=oddR) (IsG.tl (g:=V.int .i64) (fun _=>rfl) hs) hl (fun x _=>(oddR_v hL x).at _)⟩
theorem natOf1_v:VFn L 125 [.int .u64 1] (tl nrow 1 [1] (some 1)):=by
 refine VFn.start (F:=T125.1) (by rw [hL];rfl) rfl rfl rfl ?_
 refine Wf0 (show binV BinOp.shr (V.int IntKind.u64 1) (V.int IntKind.u64 32)=some (V.int .u64 0) from rfl) ?_
 refine opsP_any rfl (trim_a hL (l:=[1,0]) (m:=2) (by simp) (by simp)) ?_
 rintro r h' ⟨rfl,rfl⟩
 refine Wn0 ?_
 exact FnQ.frz [0] rfl rfl
theorem size1_v:VFn L 126 [.int .i64 1] (.int .u64 1):=by
 refine VFn.start (F:=T126.1) (by rw [hL];rfl) rfl rfl rfl ?_
 refine Wn0 ?_
 exact FnQ.ret rfl rfl
theorem one_v:VFn L 67 [.int .i64 1] (frV oneFr 1 (some 1) 1 (some 1)):=by
 have k1:=size1_v hL
 have k2:=natOf1_v hL
 have k3:=rone_v hL
 refine VFn.start (F:=T67.1) (by rw [hL];rfl) rfl rfl rfl ?_
 refine Wn3 k1 k2 k3 ?_
 exact FnQ.ret rfl rfl
theorem part_v {x:Fr} {s t:Nat} {c d:Option Nat} (hs:s=1∨x.num=[]) (ht:t=1∨x.den=[]) (ln:x.num.length < 4611686018427387904) (lm:x.den.length < 4611686018427387904) (kn:limOk x.num) (kd:limOk x.den):VFn L 65 [frV x s c t d] (.bool (partF x)):=by
 have kc:=fcheck_v hL (c:=c) (d:=d) hs ht ln lm kn kd
 unfold partF
 by_cases h1:okFr x
 ·rw [if_pos h1] at kc
  rw [decide_eq_true h1,Bool.true_and]
  obtain ⟨neg,num,den⟩:=x
  unfold frV at *
  simp only at *
  cases neg with
  | true=>
   refine VFn.start (F:=T65.1) (by rw [hL];rfl) rfl rfl rfl ?_
   refine Wn1 kc ?_
   exact FnQ.frz [] rfl rfl
  | false=>
   rw [Bool.not_false,Bool.true_and,show decide (num.length≤8∧den.length≤8)=decide ((if num.length < den.length then (den.length:Int) else num.length)≤8) from decide_eq_decide.2 (by split <;> omega)]
   refine VFn.start (F:=T65.1) (by rw [hL];rfl) rfl rfl rfl ?_
   refine Wn1 kc ?_
   exact FnQ.frz [] rfl rfl
 ·rw [if_neg h1] at kc
  rw [decide_eq_false h1,Bool.false_and]
  obtain ⟨neg,num,den⟩:=x
  unfold frV at *
  simp only at *
  refine VFn.start (F:=T65.1) (by rw [hL];rfl) rfl rfl rfl ?_
  refine Wn1 kc ?_
  exact FnQ.frz [] rfl rfl
end Go.Proofs.YtigdhgbkgfagiaaGreat
namespace Go.Proofs.YtigdhgbkgfagiaaGreat
variable {L:Lib} (hL:L.T=tab.get)
include hL
theorem terms_v {t:Tm} (ht:okTm t):VFn L 26 [.agg (tmC t)] (.bool (okTerms t)):=by
 have hr:t.ct.rule < 256:=ht.rule
 have hcl:t.ct.cands.length < 4611686018427387904:=by have:=ht.cands;show t.cands.l.length < _;omega
 have hd1:t.due.num.length < 4611686018427387904:=by have:=ht.dnum;show t.dnum.l.length < _;omega
 have hd2:t.due.den.length < 4611686018427387904:=by have:=ht.dden;show t.dden.l.length < _;omega
 have hl1:t.lim.num.length < 4611686018427387904:=by have:=ht.lnum;show t.lnum.l.length < _;omega
 have hl2:t.lim.den.length < 4611686018427387904:=by have:=ht.lden;show t.lden.l.length < _;omega
 have hrl:t.rounds.l.length < 4611686018427387904:=by have:=ht.rounds;omega
 obtain ⟨s0,c0,e0,z0⟩:=nlv_tl (f:=srow) (n:=1) (o:=t.cands)
 obtain ⟨s1,c1,e1,z1⟩:=nlv_tl (f:=nrow) (n:=1) (o:=t.dnum)
 obtain ⟨s2,c2,e2,z2⟩:=nlv_tl (f:=nrow) (n:=1) (o:=t.dden)
 obtain ⟨s3,c3,e3,z3⟩:=nlv_tl (f:=nrow) (n:=1) (o:=t.lnum)
 obtain ⟨s4,c4,e4,z4⟩:=nlv_tl (f:=nrow) (n:=1) (o:=t.lden)
 obtain ⟨s5,c5,e5,z5⟩:=nlv_tl (f:=mrow) (n:=1) (o:=t.rounds)
 have k1:=ctCheck_v hL (c:=t.ct) (s:=s0) (k:=c0) z0 hcl hr
 have k2:=part_v hL (x:=t.due) (c:=c1) (d:=c2) z1 z2 hd1 hd2 ht.dl.1 ht.dl.2
 have k3:=part_v hL (x:=t.lim) (c:=c3) (d:=c4) z3 z4 hl1 hl2 ht.ll.1 ht.ll.2
 have k4:=one_v hL
 have k6:=oddRs_v hL (c:=c5) z5 hrl
 have k5:partF t.lim=true→VFn L 66 [frV t.lim s3 c3 s4 c4,frV oneFr 1 (some 1) 1 (some 1)] (.tup [.int .i64 (cmpFr t.lim oneFr),.int .i64 0]):=fun hp=>by
  unfold partF at hp
  simp only [Bool.and_eq_true,decide_eq_true_eq] at hp
  obtain ⟨p1,p2,p3,p4⟩:=hp
  have q:∀l:List Nat,limOk l→l.length≤8→valN l*valN [1] < W32 ^ 96:=fun l h1 h2=>by
   rw [show valN [1]=1 from rfl,Nat.mul_one]
   exact Nat.lt_of_lt_of_le (valN_lt h1) (Nat.pow_le_pow_right W32_pos (by omega))
  exact fcmp_v hL z3 z4 (.inl rfl) (.inl rfl) ht.ll ⟨by intro x hx;simp [oneFr] at hx;subst hx;decide,by intro x hx;simp [oneFr] at hx;subst hx;decide⟩ p1 okFr_one (q _ ht.ll.1 p3) (by rw [Nat.mul_comm];exact q _ ht.ll.2 p4)
 unfold tmC
 rw [e0,e1,e2,e3,e4,e5]
 unfold okTerms okPol
 unfold ctC at k1
 unfold frV at k2 k3 k4 k5
 have hlen:(t.lnum.l.length:Int)=0↔t.lim.num=[]:=by
  show _↔t.lnum.l=[]
  rw [←List.length_eq_zero_iff];omega
 simp only [Tm.ct,Tm.due,Tm.lim] at k1 k2 k3 k5
 change VFn L _ [.agg [.bool t.dneg,tl nrow s1 t.dnum.l c1,tl nrow s2 t.dden.l c2]] (.bool (partF t.due)) at k2
 change VFn L _ [.agg [.bool t.lneg,tl nrow s3 t.lnum.l c3,tl nrow s4 t.lden.l c4]] (.bool (partF t.lim)) at k3
 change VFn L _ _ (.int .i64 (checkC t.ct)) at k1
 change partF t.lim=true→VFn L _ _ (.tup [.int .i64 (cmpFr t.lim oneFr),_]) at k5
 change _↔t.lim.num=[] at hlen
 have hp0:∀(a b c d:Prop) [Decidable a] [Decidable b],True:=fun _ _ _ _ _ _=>trivial
 clear hp0
 generalize checkC t.ct=q1 at *
 generalize partF t.due=q2 at *
 generalize partF t.lim=q3 at *
 generalize cmpFr t.lim oneFr=q4 at *
 generalize t.rounds.l.any oddR=q5 at *
 generalize t.lim.num=q6 at *
 have hlo:=ht.lo
 have hhi:=ht.hi
 clear ht hr hcl hd1 hd2 hl1 hl2 e0 e1 e2 e3 e4 e5
 obtain ⟨name,cands,seats,rule,lo,hi,skips,dneg,dnum,dden,lneg,lnum,lden,rounds⟩:=t
 simp only at *
 by_cases n1:q1=0
 ·subst n1
  by_cases n2:1≤lo
  ·by_cases n3:lo≤hi
   ·by_cases n4:hi≤100
    ·by_cases n5:0≤skips
     ·by_cases n6:skips≤10
      ·rw [decide_eq_true (show (0:Int)=0 from rfl),decide_eq_true (⟨n2,n3,n4,n5,n6⟩:1≤lo∧lo≤hi∧hi≤100∧0≤skips∧skips≤10),Bool.true_and,Bool.true_and]
       have m2:¬(lo:Int) < 1:=by omega
       have m3:¬(hi:Int) < lo:=by omega
       have m4:¬(100:Int) < hi:=by omega
       have m5:¬skips < 0:=by omega
       have m6:¬10 < skips:=by omega
       cases q2 with
       | false=>
        refine VFn.start (F:=T26.1) (by rw [hL];rfl) rfl rfl rfl ?_
        refine Wf2 (Q5 m2 m3 m4 m5 m6) k1 k2 ?_
        exact FnQ.frz [] rfl rfl
       | true=>
       cases q3 with
       | false=>
        refine VFn.start (F:=T26.1) (by rw [hL];rfl) rfl rfl rfl ?_
        refine Wf3 (Q5 m2 m3 m4 m5 m6) k1 k2 k3 ?_
        exact FnQ.frz [] rfl rfl
       | true=>
       have k5:=k5 rfl
       by_cases n7:q6=[]
       ·rw [decide_eq_true n7]
        have m7:=hlen.2 n7
        refine VFn.start (F:=T26.1) (by rw [hL];rfl) rfl rfl rfl ?_
        refine Wf3 (Q5 m2 m3 m4 m5 (Q2 m6 m7)) k1 k2 k3 ?_
        exact FnQ.frz [] rfl rfl
       rw [decide_eq_false n7]
       have m7:¬(lnum.l.length:Int)=0:=fun h=>n7 (hlen.1 h)
       by_cases n8:q4 < 0
       ·rw [decide_eq_true n8]
        by_cases n9:1≤rounds.l.length
        ·by_cases n10:rounds.l.length≤8
         ·rw [decide_eq_true (⟨n9,n10⟩:1≤rounds.l.length∧rounds.l.length≤8)]
          refine VFn.start (F:=T26.1) (by rw [hL];rfl) rfl rfl rfl ?_
          refine Wf6 (Q5 m2 m3 m4 m5 (Q5 m6 m7 n8 (show (1:Int)≤rounds.l.length by omega) (show (rounds.l.length:Int)≤8 by omega))) k1 k2 k3 k4 k5 k6 ?_
          exact FnQ.frz [] rfl rfl
         ·rw [decide_eq_false (fun h=>n10 h.2)]
          refine VFn.start (F:=T26.1) (by rw [hL];rfl) rfl rfl rfl ?_
          refine Wf5 (Q5 m2 m3 m4 m5 (Q5 m6 m7 n8 (show (1:Int)≤rounds.l.length by omega) (show ¬(rounds.l.length:Int)≤8 by omega))) k1 k2 k3 k4 k5 ?_
          exact FnQ.frz [] rfl rfl
        ·rw [decide_eq_false (fun h=>n9 h.1)]
         refine VFn.start (F:=T26.1) (by rw [hL];rfl) rfl rfl rfl ?_
         refine Wf5 (Q5 m2 m3 m4 m5 (Q4 m6 m7 n8 (show ¬(1:Int)≤rounds.l.length by omega))) k1 k2 k3 k4 k5 ?_
         exact FnQ.frz [] rfl rfl
       ·rw [decide_eq_false n8]
        refine VFn.start (F:=T26.1) (by rw [hL];rfl) rfl rfl rfl ?_
        refine Wf5 (Q5 m2 m3 m4 m5 (Q3 m6 m7 n8)) k1 k2 k3 k4 k5 ?_
        exact FnQ.frz [] rfl rfl
      ·rw [decide_eq_false (fun h:1≤lo∧lo≤hi∧hi≤100∧0≤skips∧skips≤10=>n6 h.2.2.2.2)]
       refine VFn.start (F:=T26.1) (by rw [hL];rfl) rfl rfl rfl ?_
       refine Wf1 (Q5 (show ¬(lo:Int) < 1 by omega) (show ¬(hi:Int) < lo by omega) (show ¬(100:Int) < hi by omega) (show ¬skips < 0 by omega) (show 10 < skips by omega)) k1 ?_
       exact FnQ.frz [] rfl rfl
     ·rw [decide_eq_false (fun h:1≤lo∧lo≤hi∧hi≤100∧0≤skips∧skips≤10=>n5 h.2.2.2.1)]
      refine VFn.start (F:=T26.1) (by rw [hL];rfl) rfl rfl rfl ?_
      refine Wf1 (Q4 (show ¬(lo:Int) < 1 by omega) (show ¬(hi:Int) < lo by omega) (show ¬(100:Int) < hi by omega) (show skips < 0 by omega)) k1 ?_
      exact FnQ.frz [] rfl rfl
    ·rw [decide_eq_false (fun h:1≤lo∧lo≤hi∧hi≤100∧0≤skips∧skips≤10=>n4 h.2.2.1)]
     refine VFn.start (F:=T26.1) (by rw [hL];rfl) rfl rfl rfl ?_
     refine Wf1 (Q3 (show ¬(lo:Int) < 1 by omega) (show ¬(hi:Int) < lo by omega) (show (100:Int) < hi by omega)) k1 ?_
     exact FnQ.frz [] rfl rfl
   ·rw [decide_eq_false (fun h:1≤lo∧lo≤hi∧hi≤100∧0≤skips∧skips≤10=>n3 h.2.1)]
    refine VFn.start (F:=T26.1) (by rw [hL];rfl) rfl rfl rfl ?_
    refine Wf1 (Q2 (show ¬(lo:Int) < 1 by omega) (show (hi:Int) < lo by omega)) k1 ?_
    exact FnQ.frz [] rfl rfl
  ·rw [decide_eq_false (fun h:1≤lo∧lo≤hi∧hi≤100∧0≤skips∧skips≤10=>n2 h.1)]
   refine VFn.start (F:=T26.1) (by rw [hL];rfl) rfl rfl rfl ?_
   refine Wf1 (show (lo:Int) < 1 by omega) k1 ?_
   exact FnQ.frz [] rfl rfl
 ·rw [decide_eq_false n1]
  refine VFn.start (F:=T26.1) (by rw [hL];rfl) rfl rfl rfl ?_
  refine Wf1 n1 k1 ?_
  exact FnQ.frz [] rfl rfl
end Go.Proofs.YtigdhgbkgfagiaaGreat
