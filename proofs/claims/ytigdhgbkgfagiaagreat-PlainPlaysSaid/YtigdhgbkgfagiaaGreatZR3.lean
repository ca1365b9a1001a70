/- Sheets, by the reference: Read, walked. · Sheets: what the program reads is what the reference reads; plain. · Sheets: scores, and what is read in all, by the program and the reference alike; plain. · The model, by the reference: who is where, walked. · The model, by the reference: a vote cast, walked. -/
import Derived.Test.YtigdhgbkgfagiaaGreatZM1
import Derived.Test.YtigdhgbkgfagiaaGreatZM2
import Derived.Test.YtigdhgbkgfagiaaGreatZR2
set_option maxRecDepth 100000
set_option maxHeartbeats 4000000
set_option linter.unusedVariables false
set_option linter.unusedSimpArgs false
namespace Go.Proofs.YtigdhgbkgfagiaaGreat
def okDs (lo hi:Int) (B:List Int) (ds:List (Int×Bool)):Prop:=
 (∀(i:Nat) (d:Int×Bool),ds[i]?=some d→0≤d.1∧d.1 < B.length∧doubtR lo hi (B[d.1.toNat]?.getD 0)=true)∧∀(i:Nat) (d:Int×Bool),ds[i]?=some d→∀(k:Nat) (e:Int×Bool),k < i→ds[k]?=some e→e.1≠d.1
def rgL (r:Rg):List V:=[.int .u8 r.kind,lsV mrow 1 r.ms,.int .i64 r.over,lsV mrow 1 r.db]
def markB (kind:Int) (M:List Bool) (n most:Nat) (skips:Int):List Int×Nat:=
 if kind=1 then ((rkL M n n skips n 0 0 []).1,if (rkL M n n skips n 0 0 []).2 then 1 else 0)
 else if kind=3 then scR M n
 else if most < (colL M 1 0 M.length).length then ([],1) else (colL M 1 0 M.length,0)
open Classical in
noncomputable def readR (c:Ct) (lo hi skips:Int) (B:List Int) (ds:List (Int×Bool)):Rg×Int:=
 if shCheck c B≠0 then (rg0,shCheck c B)
 else if okPolR lo hi skips=false then (rg0,2)
 else if B.length < ds.length then (rg0,4)
 else if okDs lo hi B ds then (⟨kindR c.rule,(markB (kindR c.rule) (mkR lo hi B ds B.length).1 c.cands.length (mostF c) skips).1,(markB (kindR c.rule) (mkR lo hi B ds B.length).1 c.cands.length (mostF c) skips).2,(mkR lo hi B ds B.length).2⟩,0)
 else (rg0,2)
theorem mkR_lenE {lo hi:Int} {B:List Int} {ds:List (Int×Bool)}:∀j,j≤B.length→(mkR lo hi B ds j).1.length=j
 | 0,_=>rfl
 | j+1,h=>by
  have:=mkR_lenE (lo:=lo) (hi:=hi) (B:=B) (ds:=ds) j (by omega)
  unfold mkR
  rw [List.getElem?_eq_getElem (show j < B.length by omega)]
  simp [this]
theorem cells_lsV {α:Type} {f:α→List V} {n:Nat} {l:List α}:V.cells (lsV f n l)=[lsV f n l]:=by unfold lsV;split <;> rfl
theorem isVal_lsV {α:Type} {f:α→List V} {n:Nat} {l:List α}:V.isVal (lsV f n l)=true:=by unfold lsV;split <;> rfl
theorem closed_rgL (r:Rg) (e:Int):V.closed (.tup [.agg (rgL r),.int .i64 e])=true:=by
 simp [rgL,V.closed,V.closeds,closed_lsV]
variable {L:Lib} (hL:L.T=tab.get)
include hL
theorem readR_v {c:Ct} {s:Nat} {k:Option Nat} {lo hi skips:Int} {s':Nat} {B:List Int} {k':Option Nat} {s2:Nat} {ds:List (Int×Bool)} {k2:Option Nat} (hs:s=1∨c.cands=[]) (hr:c.rule < 256) (hn:c.name.length < 4611686018427387904) (hc:∀x∈c.cands,x.length < 4611686018427387904) (hs':s'=1∨B=[]) (hB:B.length < 4611686018427387904) (hs2:s2=2∨ds=[]) (hd:ds.length < 4611686018427387904) :
    VFn L 148 [.agg [.str c.name,tl srow s c.cands k,.int .i64 c.seats,.int .u8 c.rule],.agg [.int .u8 lo,.int .u8 hi,.int .i64 skips],.agg [tl urow s' B k'],tl drow s2 ds k2] (.tup [.agg (rgL (readR c lo hi skips B ds).1),.int .i64 (readR c lo hi skips B ds).2]):=by
 have kc:=checkR_v hL (k:=k) (k':=k') hs hn hc hs' hB
 have kp:=polR_v hL (lo:=lo) (hi:=hi) (skips:=skips)
 refine VFn.start (F:=T148.1) (by rw [hL];rfl) rfl rfl (closed_rgL _ _) ?_
 by_cases he:shCheck c B=0
 ·rw [he] at kc
  cases hpol:okPolR lo hi skips with
  | false=>
   rw [hpol] at kp
   rw [show readR c lo hi skips B ds=(rg0,2) by unfold readR;rw [if_neg (by omega),if_pos hpol]]
   refine Wn2 kc kp ?_
   exact FnQ.ret rfl rfl
  | true=>
   rw [hpol] at kp
   by_cases h6:B.length < ds.length
   ·rw [show readR c lo hi skips B ds=(rg0,4) by unfold readR;rw [if_neg (by omega),if_neg (by simp [hpol]),if_pos h6]]
    refine Wf2 (show (B.length:Int) < ds.length by omega) kc kp ?_
    exact FnQ.ret rfl rfl
   ·have h6':¬(B.length:Int) < ds.length:=by omega
    have hbad:¬okDs lo hi B ds→readR c lo hi skips B ds=(rg0,2):=fun h=>by unfold readR;rw [if_neg (by omega),if_neg (by simp [hpol]),if_neg h6,if_neg h]
    refine Wf2 h6' kc kp ?_
    refine wCnt rfl 11 ds.length (fun _=>[]) (fun j=>(∀(i:Nat) (d:Int×Bool),i < j→ds[i]?=some d→0≤d.1∧d.1 < B.length∧doubtR lo hi (B[d.1.toNat]?.getD 0)=true)∧∀(i:Nat) (d:Int×Bool),i < j→ds[i]?=some d→∀(k:Nat) (e:Int×Bool),k < i→ds[k]?=some e→e.1≠d.1) rfl ⟨fun i d h=>absurd h (by omega),fun i d h=>absurd h (by omega)⟩ ?_ ?_
    ·rintro j hj ⟨i1,i2⟩
     obtain ⟨⟨b,mk⟩,hx,hm⟩:=get_of hj
     obtain rfl:=size_of hs2 hj
     have hwj:=wrap_succ (show j < 9223372036854775807 by omega)
     by_cases hb0:b < 0
     ·rw [hbad (fun h=>by have:=(h.1 j _ hx).1;simp only at this;omega)]
      refine Wf0 (Q5 hj (iT hj) hx @drow_eq hb0) ?_
      exact FnQ.ret rfl rfl
     ·by_cases hb1:(B.length:Int)≤b
      ·rw [hbad (fun h=>by have:=(h.1 j _ hx).2.1;simp only at this;omega)]
       refine Wf0 (Q5 hj (iT hj) hx @drow_eq (Q2 hb0 hb1)) ?_
       exact FnQ.ret rfl rfl
      ·obtain ⟨a,rfl⟩:∃a:Nat,b=a:=⟨b.toNat,by omega⟩
       have ha:a < B.length:=by omega
       obtain ⟨y,hy,-⟩:=get_of ha
       obtain rfl:=size_of hs' ha
       have kd:=doubtR_v hL (lo:=lo) (hi:=hi) (skips:=skips) (b:=y)
       cases hq:doubtR lo hi y with
       | false=>
        rw [hq] at kd
        rw [hbad (fun h=>by have:=(h.1 j _ hx).2.2;simp only [Int.toNat_natCast,hy,Option.getD_some,hq] at this;cases this)]
        refine Wf1 (Q5 hj (iT hj) hx @drow_eq (Q5 hb0 hb1 (iT ha) hy @urow_eq)) kd ?_
        exact FnQ.ret rfl rfl
       | true=>
        rw [hq] at kd
        refine Wf1 (Q5 hj (iT hj) hx @drow_eq (Q5 hb0 hb1 (iT ha) hy @urow_eq)) kd ?_
        refine wCnt rfl 12 j (fun _=>[]) (fun k=>∀(i:Nat) (e:Int×Bool),i < k→ds[i]?=some e→e.1≠(a:Int)) rfl (fun i e h=>absurd h (by omega)) ?_ ?_
        ·intro k hk hK
         have hk':k < ds.length:=by omega
         obtain ⟨⟨b2,mk2⟩,hx2,-⟩:=get_of hk'
         have hwk:=wrap_succ (show k < 9223372036854775807 by omega)
         by_cases hab:b2=(a:Int)
         ·rw [hbad (fun h=>(h.2 j _ hx k _ hk hx2) hab)]
          have d1:decide (b2=(a:Int))=true:=decide_eq_true hab
          refine Wf0 (Q5 (show (k:Int) < j by omega) (iT hj) hx @drow_eq (Q3 (iT hk') hx2 d1)) ?_
          exact FnQ.ret rfl rfl
         ·have d1:decide (b2=(a:Int))=false:=decide_eq_false hab
          refine Wf0 (Q5 (show (k:Int) < j by omega) (iT hj) hx @drow_eq (Q4 (iT hk') hx2 d1 hwk)) ?_
          refine qR_n rfl rfl ?_
          intro i e hi he
          by_cases hik:i=k
          ·subst hik
           rw [hx2] at he;cases he
           exact hab
          ·exact hK i e (by omega) he
        ·intro hK
         refine Wf0 hwj ?_
         refine qR_n rfl rfl ⟨?_,?_⟩
         ·intro i d hi he
          by_cases hij:i=j
          ·subst hij
           rw [hx] at he;cases he
           exact ⟨by simp only;omega,by simp only;omega,by simp only [Int.toNat_natCast,hy,Option.getD_some,hq]⟩
          ·exact i1 i d (by omega) he
         ·intro i d hi he k e hk hke
          by_cases hij:i=j
          ·subst hij
           rw [hx] at he;cases he
           exact hK k e hk hke
          ·exact i2 i d (by omega) he k e hk hke
    ·rintro ⟨i1,i2⟩
     have hok:okDs lo hi B ds:=⟨fun i d h=>i1 i d (List.getElem?_eq_some_iff.1 h).1 h,fun i d h=>i2 i d (List.getElem?_eq_some_iff.1 h).1 h⟩
     have hck:checkC c=0:=by
      unfold shCheck at he
      by_cases h:checkC c=0
      ·exact h
      ·rw [if_neg h] at he;exact he
     obtain ⟨hc1,hc2,-⟩:=check_len hck
     have hBn:B.length=boxesN c:=by
      unfold shCheck at he
      rw [if_pos hck] at he
      by_cases h:B.length=boxesN c
      ·exact h
      ·rw [if_pos (.inl h)] at he;omega
     have hwl:=wide_le (k:=kindR c.rule) hc2
     have hwp:=wide_pos (k:=kindR c.rule) hc1
     have hB2:B.length≤110:=by rw [hBn];exact Nat.mul_le_mul hc2 hwl
     have hB1:1≤B.length:=by rw [hBn];exact Nat.mul_le_mul hc1 hwp
     have his:=is_of_check hck
     have kk:=kindOf_v hL (r:=c.rule)
     rw [kind_eq his] at kk
     have kmn:=marksN_v hL (r:=c.rule) (n:=c.cands.length)
     rw [alone_eq his] at kmn
     have kmo:VFn L 182 [.int .u8 c.rule,.int .i64 c.cands.length] (.int .i64 (mostF c:Nat)):=by
      unfold mostF
      cases ha:aloneR c.rule with
      | true=>rw [ha] at kmn;exact kmn
      | false=>rw [ha] at kmn;exact kmn
     have km:=markedR_v hL (lo:=lo) (hi:=hi) (skips:=skips) (k':=k') (k2:=k2) hs' (by omega) hs2 hd
     have hres:readR c lo hi skips B ds=(⟨kindR c.rule,(markB (kindR c.rule) (mkR lo hi B ds B.length).1 c.cands.length (mostF c) skips).1,(markB (kindR c.rule) (mkR lo hi B ds B.length).1 c.cands.length (mostF c) skips).2,(mkR lo hi B ds B.length).2⟩,0):=by
      unfold readR
      rw [if_neg (by omega),if_neg (by simp [hpol]),if_neg h6,if_pos hok]
     rw [hres]
     have hMl:=mkR_lenE (lo:=lo) (hi:=hi) (ds:=ds) B.length (Nat.le_refl _)
     have hdb:(lsV mrow 1 (mkR lo hi B ds B.length).2).closed=true:=closed_lsV
     generalize mkR lo hi B ds B.length=S at *
     obtain ⟨M,db⟩:=S
     dsimp only at hMl km ⊢
     have hne:M≠[]:=fun e=>by rw [e] at hMl;simp at hMl;omega
     rw [show lsV brow 1 M=tl brow 1 M none from if_neg hne] at km
     have hkr:kindR c.rule=1∨kindR c.rule=2∨kindR c.rule=3:=by
      rw [←kind_eq his]
      unfold kindB
      split
      ·exact .inr (.inl rfl)
      ·split
       ·exact .inr (.inr rfl)
       ·exact .inl rfl
     have hbx:B.length=c.cands.length*wideF (kindR c.rule) c.cands.length:=hBn
     have hsk:0≤skips:=by
      unfold okPolR at hpol
      simp at hpol
      omega
     unfold rgL markB
     have dc:=cells_lsV (f:=mrow) (n:=1) (l:=db)
     have dv:=isVal_lsV (f:=mrow) (n:=1) (l:=db)
     generalize lsV mrow 1 db=dbv at *
     have hcl:∀(v:V) (o:Int),v.closed=true→V.closed (.tup [.agg [.int .u8 (kindR c.rule),v,.int .i64 o,dbv],.int .i64 0])=true:=fun v o h=>by simp [V.closed,V.closeds,h,hdb]
     rcases hkr with hk|hk|hk
     ·rw [hk] at kk hbx ⊢
      have kr:=ranksR_v hL (c:=none) (n:=c.cands.length) (skips:=skips) (M:=M) (by omega) (by rw [hMl,hbx];rfl) hsk
      have hrc:(lsV mrow 1 (rkL M c.cands.length c.cands.length skips c.cands.length 0 0 []).1).closed=true:=closed_lsV
      rw [if_pos rfl]
      generalize rkL M c.cands.length c.cands.length skips c.cands.length 0 0 []=R at *
      obtain ⟨R1,R2⟩:=R
      dsimp only at kr hrc ⊢
      rw [show (((if R2=true then 1 else 0:Nat)):Int)=if R2=true then 1 else 0 by split <;> rfl]
      generalize (if R2=true then (1:Int) else 0)=ov at *
      have rc:=cells_lsV (f:=mrow) (n:=1) (l:=R1)
      have rv':=isVal_lsV (f:=mrow) (n:=1) (l:=R1)
      generalize lsV mrow 1 R1=rv at *
      refine Wf5 (Q4 dc dv rc rv') kc kp km kk kr ?_
      exact FnQ.ret rfl (by simp [V.closed,V.closeds,hrc,hdb])
     ·rw [hk] at kk hbx ⊢
      have hMn:M.length=c.cands.length:=by rw [hMl,hbx];show _*1=_;omega
      have kr:=marksR_v hL (c:=none) (M:=M) (most:=mostF c) (by omega)
      have hrc:(lsV mrow 1 (colL M 1 0 M.length)).closed=true:=closed_lsV
      rw [if_neg (by decide),if_neg (by decide)]
      generalize colL M 1 0 M.length=R1 at *
      generalize mostF c=mo at *
      by_cases hmo:mo < R1.length
      ·rw [if_pos hmo] at kr ⊢
       rw [show lsV mrow 1 ([]:List Int)=.lst 0 [] (some 0) from rfl]
       unfold nilV at kr
       refine Wf6 (Q2 dc dv) kc kp km kk kmo kr ?_
       exact FnQ.ret rfl (by simp [V.closed,V.closeds,hdb])
      ·rw [if_neg hmo] at kr ⊢
       have rc:=cells_lsV (f:=mrow) (n:=1) (l:=R1)
       have rv':=isVal_lsV (f:=mrow) (n:=1) (l:=R1)
       generalize lsV mrow 1 R1=rv at *
       refine Wf6 (Q4 dc dv rc rv') kc kp km kk kmo kr ?_
       exact FnQ.ret rfl (by simp [V.closed,V.closeds,hrc,hdb])
     ·rw [hk] at kk hbx ⊢
      have kr:=scoresR_v hL (c:=none) (n:=c.cands.length) (M:=M) (by omega) (by rw [hMl,hbx];rfl)
      have hrc:(lsV mrow 1 (scR M c.cands.length).1).closed=true:=closed_lsV
      rw [if_neg (by decide),if_pos rfl]
      generalize scR M c.cands.length=R at *
      obtain ⟨R1,R2⟩:=R
      dsimp only at kr hrc ⊢
      have rc:=cells_lsV (f:=mrow) (n:=1) (l:=R1)
      have rv':=isVal_lsV (f:=mrow) (n:=1) (l:=R1)
      generalize lsV mrow 1 R1=rv at *
      refine Wf5 (Q4 dc dv rc rv') kc kp km kk kr ?_
      exact FnQ.ret rfl (by simp [V.closed,V.closeds,hrc,hdb])
 ·rw [show readR c lo hi skips B ds=(rg0,shCheck c B) by unfold readR;rw [if_pos he]]
  refine Wf1 he kc ?_
  exact FnQ.ret rfl rfl
end Go.Proofs.YtigdhgbkgfagiaaGreat
namespace Go.Proofs.YtigdhgbkgfagiaaGreat
theorem badP_iff {lo hi skips:Int}:badP lo hi skips↔okPolR lo hi skips=false:=by
 unfold badP okPolR
 simp
 omega
def okD (D:List Bool) (ds:List (Int×Bool)):Prop:=(∀d∈ds,0≤d.1∧d.1 < D.length∧D[d.1.toNat]?.getD false=true)∧ds.Pairwise (fun a b=>a.1≠b.1)
def decM (ds:List (Int×Bool)) (M:List Bool):List Bool:=ds.foldl (fun M d=>M.set d.1.toNat d.2) M
def decD (ds:List (Int×Bool)) (D:List Bool):List Bool:=ds.foldl (fun D d=>D.set d.1.toNat false) D
theorem getD_set {D:List Bool} {i j:Nat} {x:Bool} (hj:j < D.length):(D.set i x)[j]?.getD false=if i=j then x else D[j]?.getD false:=by
 rw [List.getElem?_set]
 by_cases h:i=j
 ·subst h;simp [hj]
 ·simp [h]
theorem okD_cons {D:List Bool} {d:Int×Bool} {r:List (Int×Bool)} (h0:0≤d.1) (h1:d.1 < D.length) (h2:D[d.1.toNat]?.getD false=true):okD D (d::r)↔okD (D.set d.1.toNat false) r:=by
 unfold okD
 rw [List.pairwise_cons]
 constructor
 ·rintro ⟨h3,h4,h5⟩
  refine ⟨fun e he=>?_,h5⟩
  obtain ⟨q1,q2,q3⟩:=h3 e (List.mem_cons_of_mem _ he)
  refine ⟨q1,by rw [List.length_set];exact q2,?_⟩
  rw [getD_set (by omega),if_neg (by have:=h4 e he;omega)]
  exact q3
 ·rintro ⟨h3,h5⟩
  have key:∀e∈r,0≤e.1∧e.1 < D.length∧D[e.1.toNat]?.getD false=true∧d.1≠e.1:=fun e he=>by
   obtain ⟨q1,q2,q3⟩:=h3 e he
   rw [List.length_set] at q2
   rw [getD_set (by omega)] at q3
   by_cases h:d.1.toNat=e.1.toNat
   ·rw [if_pos h] at q3;cases q3
   ·rw [if_neg h] at q3
    exact ⟨q1,q2,q3,fun e'=>h (by rw [e'])⟩
  refine ⟨fun e he=>?_,fun e he=>(key e he).2.2.2,h5⟩
  rcases List.mem_cons.1 he with rfl|he
  ·exact ⟨h0,h1,h2⟩
  ·exact ⟨(key e he).1,(key e he).2.1,(key e he).2.2.1⟩
theorem decL_ok:∀(ds:List (Int×Bool)) (M D:List Bool),okD D ds→decL ds M D=some (decM ds M,decD ds D)
 | [],_,_,_=>rfl
 | d::r,M,D,h=>by
  obtain ⟨h0,h1,h2⟩:=h.1 d List.mem_cons_self
  unfold decL
  rw [if_neg (by omega),if_pos h2]
  exact decL_ok r _ _ ((okD_cons h0 h1 h2).1 h)
theorem decL_no:∀(ds:List (Int×Bool)) (M D:List Bool),¬okD D ds→decL ds M D=none
 | [],_,_,h=>absurd ⟨(fun d hd=>by cases hd),List.Pairwise.nil⟩ h
 | d::r,M,D,h=>by
  unfold decL
  by_cases h0:d.1 < 0∨(D.length:Int)≤d.1
  ·rw [if_pos h0]
  ·rw [if_neg h0]
   by_cases h2:D[d.1.toNat]?.getD false=true
   ·rw [if_pos h2]
    exact decL_no r _ _ (fun h'=>h ((okD_cons (by omega) (by omega) h2).2 h'))
   ·rw [if_neg h2]
theorem decR_cons {d:Int×Bool} {r:List (Int×Bool)} {b:Int}:decR (d::r) b=if d.1=b then (d.2,true) else decR r b:=by
 unfold decR
 rw [List.find?_cons]
 by_cases h:d.1=b
 ·simp [h]
 ·simp [h]
theorem decR_none {r:List (Int×Bool)} {b:Int} (h:∀e∈r,e.1≠b):decR r b=(false,false):=by
 unfold decR
 rw [List.find?_eq_none.2 (fun e he=>by simpa using h e he)]
theorem decM_get:∀(ds:List (Int×Bool)) (M:List Bool) (a:Nat),ds.Pairwise (fun a b=>a.1≠b.1)→(∀d∈ds,0≤d.1)→a < M.length→(decM ds M)[a]?.getD false=if (decR ds a).2 then (decR ds a).1 else M[a]?.getD false
 | [],M,a,_,_,_=>rfl
 | d::r,M,a,hp,h0,ha=>by
  rw [List.pairwise_cons] at hp
  have:=decM_get r (M.set d.1.toNat d.2) a hp.2 (fun e he=>h0 e (List.mem_cons_of_mem _ he)) (by rw [List.length_set];exact ha)
  show (decM r (M.set d.1.toNat d.2))[a]?.getD false=_
  rw [this,getD_set ha,decR_cons]
  have hd0:=h0 d List.mem_cons_self
  by_cases h:d.1=(a:Int)
  ·rw [if_pos h,decR_none (fun e he=>by have:=hp.1 e he;omega),if_neg (by simp),if_pos (by omega)]
   rfl
  ·rw [if_neg h,if_neg (show ¬d.1.toNat=a by omega)]
theorem decD_get:∀(ds:List (Int×Bool)) (D:List Bool) (a:Nat),(∀d∈ds,0≤d.1)→a < D.length→(decD ds D)[a]?.getD false=if (decR ds a).2 then false else D[a]?.getD false
 | [],D,a,_,_=>rfl
 | d::r,D,a,h0,ha=>by
  have:=decD_get r (D.set d.1.toNat false) a (fun e he=>h0 e (List.mem_cons_of_mem _ he)) (by rw [List.length_set];exact ha)
  show (decD r (D.set d.1.toNat false))[a]?.getD false=_
  rw [this,getD_set ha,decR_cons]
  have hd0:=h0 d List.mem_cons_self
  by_cases h:d.1=(a:Int)
  ·rw [if_pos h,if_pos (show d.1.toNat=a by omega)]
   simp
  ·rw [if_neg h,if_neg (show ¬d.1.toNat=a by omega)]
theorem decM_len (ds:List (Int×Bool)):∀(M:List Bool),(decM ds M).length=M.length:=by
 induction ds with
 | nil=>intro M;rfl
 | cons d r ih=>intro M;show (decM r _).length=_;rw [ih,List.length_set]
theorem decD_len (ds:List (Int×Bool)):∀(M:List Bool),(decD ds M).length=M.length:=by
 induction ds with
 | nil=>intro M;rfl
 | cons d r ih=>intro M;show (decD r _).length=_;rw [ih,List.length_set]
theorem okD_iff {lo hi:Int} {B:List Int} {ds:List (Int×Bool)}:okD (B.map fun b=>decide (lo≤b)&&decide (b < hi)) ds↔okDs lo hi B ds:=by
 unfold okD okDs
 have e1:∀a,a < B.length→(B.map fun b=>decide (lo≤b)&&decide (b < hi))[a]?.getD false=doubtR lo hi (B[a]?.getD 0):=fun a ha=>by
  rw [List.getElem?_map,List.getElem?_eq_getElem ha];rfl
 rw [List.length_map]
 constructor
 ·rintro ⟨h1,h2⟩
  refine ⟨fun i d hd=>?_,fun i d hd k e hk he=>?_⟩
  ·obtain ⟨q1,q2,q3⟩:=h1 d (List.mem_of_getElem? hd)
   rw [e1 _ (by omega)] at q3
   exact ⟨q1,q2,q3⟩
  ·rw [List.pairwise_iff_getElem] at h2
   obtain ⟨p1,p2⟩:=List.getElem?_eq_some_iff.1 hd
   obtain ⟨p3,p4⟩:=List.getElem?_eq_some_iff.1 he
   have:=h2 k i p3 p1 hk
   rw [p2,p4] at this
   exact this
 ·rintro ⟨h1,h2⟩
  refine ⟨fun d hd=>?_,?_⟩
  ·obtain ⟨i,hi⟩:=List.mem_iff_getElem?.1 hd
   obtain ⟨q1,q2,q3⟩:=h1 i d hi
   exact ⟨q1,q2,by rw [e1 _ (by omega)];exact q3⟩
  ·rw [List.pairwise_iff_getElem]
   intro k i hk hi hki
   exact h2 i _ (List.getElem?_eq_getElem hi) k _ hki (List.getElem?_eq_getElem hk)
theorem mkR_get {lo hi:Int} {B:List Int} {ds:List (Int×Bool)}:∀(j a:Nat),j≤B.length→a < j→(mkR lo hi B ds j).1[a]?=some (if doubtR lo hi (B[a]?.getD 0) then (decR ds a).1 else decide (hi≤B[a]?.getD 0))
 | 0,a,_,h=>absurd h (by omega)
 | j+1,a,hj,ha=>by
  have hl:=mkR_lenE (lo:=lo) (hi:=hi) (B:=B) (ds:=ds) j (by omega)
  unfold mkR
  rw [List.getElem?_eq_getElem (show j < B.length by omega)]
  dsimp only
  by_cases h:a < j
  ·rw [List.getElem?_append_left (by omega)]
   exact mkR_get j a (by omega) h
  ·obtain rfl:a=j:=by omega
   rw [List.getElem?_append_right (by omega),hl,Nat.sub_self,List.getElem?_eq_getElem (show a < B.length by omega)]
   rfl
theorem dec_marked {lo hi:Int} {B:List Int} {ds:List (Int×Bool)} (h:okDs lo hi B ds):decM ds (B.map fun b=>decide (hi≤b))=(mkR lo hi B ds B.length).1:=by
 have hD:=okD_iff.2 h
 refine List.ext_getElem? fun a=>?_
 have hl:=mkR_lenE (lo:=lo) (hi:=hi) (B:=B) (ds:=ds) B.length (Nat.le_refl _)
 by_cases ha:a < B.length
 ·rw [mkR_get _ a (Nat.le_refl _) ha]
  have hla:a < (decM ds (B.map fun b=>decide (hi≤b))).length:=by rw [decM_len,List.length_map];exact ha
  have:=decM_get ds (B.map fun b=>decide (hi≤b)) a hD.2 (fun d hd=>(hD.1 d hd).1) (by rw [List.length_map];exact ha)
  rw [List.getElem?_eq_getElem hla,Option.getD_some] at this
  rw [List.getElem?_eq_getElem hla,this,List.getElem?_map,List.getElem?_eq_getElem ha]
  simp only [Option.map_some,Option.getD_some]
  congr 1
  generalize hb:B[a]=b
  cases hq:doubtR lo hi b with
  | true=>
   rw [if_pos rfl]
   cases hd:(decR ds a).2 with
   | true=>simp [hd]
   | false=>
    have h1:(decR ds a).1=false:=by
     unfold decR at hd ⊢
     split at hd
     ·cases hd
     ·rfl
    rw [h1]
    unfold doubtR at hq
    simp at hq
    simp;omega
  | false=>
   simp only [Bool.false_eq_true,if_false]
   cases hd:(decR ds a).2 with
   | false=>simp [hd]
   | true=>
    exfalso
    unfold decR at hd
    split at hd
    ·rename_i d hf
     have hm:=List.mem_of_find?_eq_some hf
     have he:=List.find?_some hf
     simp at he
     have:=(hD.1 d hm).2.2
     rw [List.getElem?_map,show d.1.toNat=a by omega,List.getElem?_eq_getElem ha,hb] at this
     unfold doubtR at hq
     simp at this hq
     omega
    ·cases hd
 ·rw [List.getElem?_eq_none (by rw [decM_len,List.length_map];omega),List.getElem?_eq_none (by omega)]
theorem dec_doubts {lo hi:Int} {B:List Int} {ds:List (Int×Bool)} (h:okDs lo hi B ds):∀j,j≤B.length→dbL (decD ds (B.map fun b=>decide (lo≤b)&&decide (b < hi))) j=(mkR lo hi B ds j).2
 | 0,_=>rfl
 | j+1,hj=>by
  have hD:=okD_iff.2 h
  have hx:B[j]?=some B[j]:=List.getElem?_eq_getElem (by omega)
  unfold dbL mkR
  rw [hx,dec_doubts h j (by omega),decD_get ds _ j (fun d hd=>(hD.1 d hd).1) (by rw [List.length_map];omega),List.getElem?_map,hx]
  simp only [Option.map_some,Option.getD_some]
  congr 1
  show (if (if (decR ds j).2=true then false else doubtR lo hi B[j])=true then _ else _)=_
  cases (decR ds j).2 <;> cases doubtR lo hi B[j] <;> rfl
end Go.Proofs.YtigdhgbkgfagiaaGreat
namespace Go.Proofs.YtigdhgbkgfagiaaGreat
theorem rowS_spec {M:List Bool} {i:Nat}:∀k,((rowS M i k).2=0→(rowS M i k).1=0∧∀q,q < k→M[i*11+q]?.getD false=false)∧
    ((rowS M i k).2=1→(rowS M i k).1 < k∧M[i*11+(rowS M i k).1]?.getD false=true∧∀q,q < k→M[i*11+q]?.getD false=true→q=(rowS M i k).1)∧
    (1 < (rowS M i k).2→∃p q,p < q∧q < k∧M[i*11+p]?.getD false=true∧M[i*11+q]?.getD false=true)∧
    (0 < (rowS M i k).2→∃p,p < k∧M[i*11+p]?.getD false=true)
 | 0=>⟨(fun _=>⟨rfl,fun q h=>absurd h (by omega)⟩),(fun h=>absurd h (by show ¬0=1;omega)),(fun h=>absurd h (by show ¬1 < 0;omega)),(fun h=>absurd h (by show ¬0 < 0;omega))⟩
 | k+1=>by
  obtain ⟨h1,h2,h3,h4⟩:=rowS_spec (M:=M) (i:=i) k
  unfold rowS
  by_cases hb:M[i*11+k]?.getD false=true
  ·rw [if_pos hb]
   dsimp only
   refine ⟨fun h=>by omega,fun h=>?_,fun h=>?_,fun _=>⟨k,by omega,hb⟩⟩
   ·obtain ⟨-,h6⟩:=h1 (by omega)
    refine ⟨by omega,hb,fun q hq hm=>?_⟩
    by_cases hqk:q=k
    ·exact hqk
    ·rw [h6 q (by omega)] at hm;cases hm
   ·obtain ⟨p,hp,hm⟩:=h4 (by omega)
    exact ⟨p,k,hp,by omega,hm,hb⟩
  ·rw [if_neg hb]
   refine ⟨fun h=>?_,fun h=>?_,fun h=>?_,fun h=>?_⟩
   ·obtain ⟨h5,h6⟩:=h1 h
    refine ⟨h5,fun q hq=>?_⟩
    by_cases hqk:q=k
    ·subst hqk;simpa using hb
    ·exact h6 q (by omega)
   ·obtain ⟨h5,h6,h7⟩:=h2 h
    refine ⟨by omega,h6,fun q hq hm=>?_⟩
    by_cases hqk:q=k
    ·subst hqk;exact absurd hm hb
    ·exact h7 q (by omega) hm
   ·obtain ⟨p,q,h5,h6,h7⟩:=h3 h
    exact ⟨p,q,h5,by omega,h7⟩
   ·obtain ⟨p,h5,h6⟩:=h4 h
    exact ⟨p,by omega,h6⟩
theorem findG_spec {α:Type} {p:α→Bool}:∀(l:List α) (j:Nat),(findG p l j=-1∧∀x∈l,p x=false)∨∃(a:Nat) (x:α),findG p l j=(j:Int)+a∧l[a]?=some x∧p x=true∧∀(q:Nat) (y:α),q < a→l[q]?=some y→p y=false
 | [],j=>.inl ⟨rfl,(fun x h=>by cases h)⟩
 | x::r,j=>by
  unfold findG
  cases h:p x with
  | true=>
   rw [if_pos rfl]
   exact .inr ⟨0,x,by simp,rfl,h,fun q y hq=>absurd hq (by omega)⟩
  | false=>
   rw [if_neg (by simp)]
   rcases findG_spec (p:=p) r (j+1) with ⟨h1,h2⟩|⟨a,y,h1,h2,h3,h4⟩
   ·refine .inl ⟨h1,fun y hy=>?_⟩
    rcases List.mem_cons.1 hy with rfl|hy
    ·exact h
    ·exact h2 y hy
   ·refine .inr ⟨a+1,y,by rw [h1];omega,h2,h3,fun q z hq hz=>?_⟩
    cases q with
    | zero=>simp at hz;subst hz;exact h
    | succ q=>exact h4 q z (by omega) (by simpa using hz)
theorem own_get {M:List Bool} {i q:Nat} (hq:q < 11):(ownR M 11 i)[q]?=M[i*11+q]?:=by
 unfold ownR
 rw [List.getElem?_take,if_pos hq,List.getElem?_drop]
theorem sc_eq {M:List Bool} {n:Nat} (hM:M.length=n*11):∀j,j≤n→scL M n 11 j=((scR M j).1++List.replicate (n - j) 0,(scR M j).2)
 | 0,_=>rfl
 | j+1,hj=>by
  have ih:=sc_eq hM j (by omega)
  have hl:=(scR_len (M:=M) j).1
  have hfill:∀v:Int,((scR M j).1++List.replicate (n - j) 0).set j v=((scR M j).1++[v])++List.replicate (n - (j+1)) 0:=fun v=>by
   rw [List.set_append_right _ _ (by omega),hl,Nat.sub_self,show n - j=(n - (j+1))+1 by omega,List.replicate_succ,List.set_cons_zero,List.append_assoc];rfl
  have hsame:(scR M j).1++List.replicate (n - j) 0=((scR M j).1++[0])++List.replicate (n - (j+1)) 0:=by
   rw [show n - j=(n - (j+1))+1 by omega,List.replicate_succ,List.append_assoc];rfl
  obtain ⟨r1,r2,r3,r4⟩:=rowS_spec (M:=M) (i:=j) 11
  have htrue:∀q,q < 11→(M[j*11+q]?.getD false=true↔(ownR M 11 j)[q]?=some true):=fun q hq=>by
   rw [own_get hq]
   have:j*11+q < M.length:=by rw [hM];omega
   rw [List.getElem?_eq_getElem this]
   simp
  have hown:(ownR M 11 j).length=11:=by unfold ownR;rw [List.length_take,List.length_drop,hM];omega
  unfold scL scR
  rw [ih]
  unfold atB
  rcases findG_spec (p:=fun x=>decide (true=x)) (ownR M 11 j) 0 with ⟨h1,h2⟩|⟨a,x,h1,h2,h3,h4⟩
  ·rw [h1,if_pos (by decide)]
   have h0:(rowS M j 11).2=0:=by
    by_cases h:(rowS M j 11).2=0
    ·exact h
    ·obtain ⟨p,hp,hm⟩:=r4 (by omega)
     have:=h2 true (List.mem_of_getElem? ((htrue p hp).1 hm))
     simp at this
   rw [if_neg (by omega),(r1 h0).1]
   exact Prod.ext hsame rfl
  ·have ha:a < 11:=by rw [←hown];exact (List.getElem?_eq_some_iff.1 h2).1
   have hxt:x=true:=by simpa using h3.symm
   subst hxt
   have hma:M[j*11+a]?.getD false=true:=(htrue a ha).2 h2
   rw [h1,if_neg (by omega),show ((0:Nat):Int)+(a:Int)=(a:Int) by omega,Int.toNat_natCast]
   have hpos:0 < (rowS M j 11).2:=by
    by_cases h:(rowS M j 11).2=0
    ·have:=(r1 h).2 a ha
     rw [this] at hma;cases hma
    ·omega
   by_cases hm:1 < (rowS M j 11).2
   ·obtain ⟨p,q,hpq,hq,hmp,hmq⟩:=r3 hm
    have hqa:a+1≤q:=by
     have hap:a≤p:=by
      by_cases hlt:p < a
      ·have:=h4 p true hlt ((htrue p (by omega)).1 hmp)
       simp at this
      ·omega
     omega
    rw [if_pos hm,if_pos (List.mem_of_getElem? (i:=q - (a+1)) (by rw [List.getElem?_drop,show a+1+(q - (a+1))=q by omega];exact (htrue q hq).1 hmq))]
    exact Prod.ext hsame rfl
   ·obtain ⟨-,-,h7⟩:=r2 (by omega)
    rw [if_neg hm,if_neg (fun hmem=>by
     obtain ⟨q,hq⟩:=List.mem_iff_getElem?.1 hmem
     rw [List.getElem?_drop] at hq
     have hlt:a+1+q < 11:=by rw [←hown];exact (List.getElem?_eq_some_iff.1 hq).1
     have e1:=h7 _ hlt ((htrue _ hlt).2 hq)
     have e2:=h7 a ha hma
     omega)]
    rw [←h7 a ha hma]
    exact Prod.ext (hfill a) rfl
theorem read_same {c:Ct} {lo hi skips:Int} {B:List Int} {ds:List (Int×Bool)}:readF c lo hi skips B ds=readR c lo hi skips B ds:=by
 unfold readF readR
 by_cases he:shCheck c B≠0
 ·rw [if_pos he,if_pos he]
 ·rw [if_neg he,if_neg he]
  have he':shCheck c B=0:=Decidable.not_not.1 he
  by_cases hp:badP lo hi skips
  ·rw [if_pos hp,if_pos (badP_iff.1 hp)]
  ·rw [if_neg hp,if_neg (fun h=>hp (badP_iff.2 h))]
   by_cases h6:B.length < ds.length
   ·rw [if_pos h6,if_pos h6]
   ·rw [if_neg h6,if_neg h6]
    by_cases hok:okDs lo hi B ds
    ·rw [if_pos hok,decL_ok ds _ _ (okD_iff.2 hok)]
     dsimp only
     have hck:checkC c=0:=by
      unfold shCheck at he'
      by_cases h:checkC c=0
      ·exact h
      ·rw [if_neg h] at he';exact he'
     have hBn:B.length=boxesN c:=by
      unfold shCheck at he'
      rw [if_pos hck] at he'
      by_cases h:B.length=boxesN c
      ·exact h
      ·rw [if_pos (.inl h)] at he';omega
     have hMl:=mkR_lenE (lo:=lo) (hi:=hi) (ds:=ds) B.length (Nat.le_refl _)
     rw [dec_marked hok,decD_len,List.length_map,dec_doubts hok _ (Nat.le_refl _)]
     have hbx:B.length=c.cands.length*wideF (kindR c.rule) c.cands.length:=hBn
     generalize (mkR lo hi B ds B.length).1=M at *
     have hmark:markR (kindR c.rule) M c.cands.length (wideF (kindR c.rule) c.cands.length) (mostF c) skips=markB (kindR c.rule) M c.cands.length (mostF c) skips:=by
      unfold markR markB
      by_cases h1:kindR c.rule=1
      ·rw [if_pos h1,if_pos h1]
       unfold wideF
       rw [if_pos h1]
      ·rw [if_neg h1,if_neg h1]
       by_cases h3:kindR c.rule=3
       ·rw [if_pos h3,if_pos h3]
        have hw:wideF (kindR c.rule) c.cands.length=11:=by unfold wideF;rw [if_neg h1,if_pos h3]
        rw [hw] at hbx ⊢
        rw [sc_eq (by rw [hMl,hbx]) _ (Nat.le_refl _),Nat.sub_self]
        simp
       ·rw [if_neg h3,if_neg h3]
        have hw:wideF (kindR c.rule) c.cands.length=1:=by unfold wideF;rw [if_neg h1,if_neg h3]
        rw [hw] at hbx ⊢
        rw [show M.length=c.cands.length by omega]
     rw [hmark]
    ·rw [if_neg hok,decL_no ds _ _ (fun h=>hok (okD_iff.1 h))]
end Go.Proofs.YtigdhgbkgfagiaaGreat
namespace Go.Proofs.YtigdhgbkgfagiaaGreat
def prow (p:List UInt8×Int):List V:=[.str p.1,.int .i64 p.2]
theorem prow_eq (p:List UInt8×Int):prow p=[.str p.1,.int .i64 p.2]:=rfl
theorem closed_prow (p:List UInt8×Int):(prow p).all V.closed=true:=rfl
theorem prow_set {r:List (List UInt8×Int)} {i:Nat} {x:List UInt8×Int}:(r.map prow).set i [.str x.1,.int .i64 x.2]=(r.set i x).map prow:=by rw [List.map_set];rfl
theorem prow_set1 {r:List (List UInt8×Int)} {i:Nat} {a:List UInt8} {b:Int}:(r.map prow).set i [.str a,.int .i64 b]=(r.set i (a,b)).map prow:=prow_set (x:=(a,b))
variable {L:Lib} (hL:L.T=tab.get)
include hL
theorem findR_v {s:Nat} {l:List (List UInt8×Int)} {c:Option Nat} {y:List UInt8} (hs:s=2∨l=[]) (hl:l.length < 4611686018427387904):VFn L 112 [tl prow s l c,.str y] (.int .i64 (findG (fun x=>x.1 == y) l 0)):=by
 refine VFn.start (F:=T112.1) (by rw [hL];rfl) rfl rfl rfl ?_
 (repeat' (first|refine Z0 ?_|refine Z3 ?_|refine Z2 ?_|simp only [seval,push_cast,↓reduceIte,↓bP_some,↓aP_true,reduceCtorEq]))
 refine wCnt rfl 5 l.length (fun _=>[]) (fun j=>findG (fun x=>x.1 == y) l 0=findG (fun x=>x.1 == y) (l.drop j) j) rfl rfl ?_ ?_
 ·intro j hj hI
  obtain ⟨x,hx,hm⟩:=get_of hj
  obtain rfl:=size_of hs hj
  have hd:=drop_atG hx
  have hw:=wrap_succ (show j < 9223372036854775807 by omega)
  cases hp:(x.1 == y) with
  | true=>
   (repeat' (first|refine Z0 ?_|refine Z3 ?_|refine Z2 ?_|simp only [seval,push_cast,↓reduceIte,↓bP_some,↓aP_true,reduceCtorEq,hj,iaQ_tl hj,hx,prow_eq,seqV,hp]))
   rw [show findG (fun x=>x.1 == y) l 0=(j:Int) by rw [hI,hd];exact if_pos hp]
   exact FnQ.ret rfl rfl
  | false=>
   (repeat' (first|refine Z0 ?_|refine Z3 ?_|refine Z2 ?_|simp only [seval,push_cast,↓reduceIte,↓bP_some,↓aP_true,reduceCtorEq,hj,iaQ_tl hj,hx,prow_eq,seqV,hp,hw]))
   refine qR_n rfl rfl ?_
   rw [hI,hd]
   exact if_neg (by simp [hp])
 ·intro hI
  refine Wn0 ?_
  rw [show findG (fun x=>x.1 == y) l 0=-1 by rw [hI,List.drop_eq_nil_of_le (Nat.le_refl _)];rfl]
  exact FnQ.ret rfl rfl
theorem batchR_v {s:Nat} {l:List (List UInt8)} {c:Option Nat} {y:List UInt8} (hs:s=1∨l=[]) (hl:l.length < 4611686018427387904):VFn L 149 [tl srow s l c,.str y] (.int .i64 (findG (fun x=>x == y) l 0)):=by
 refine VFn.start (F:=T149.1) (by rw [hL];rfl) rfl rfl rfl ?_
 (repeat' (first|refine Z0 ?_|refine Z3 ?_|refine Z2 ?_|simp only [seval,push_cast,↓reduceIte,↓bP_some,↓aP_true,reduceCtorEq]))
 refine wCnt rfl 5 l.length (fun _=>[]) (fun j=>findG (fun x=>x == y) l 0=findG (fun x=>x == y) (l.drop j) j) rfl rfl ?_ ?_
 ·intro j hj hI
  obtain ⟨x,hx,hm⟩:=get_of hj
  obtain rfl:=size_of hs hj
  have hd:=drop_atG hx
  have hw:=wrap_succ (show j < 9223372036854775807 by omega)
  cases hp:(x == y) with
  | true=>
   (repeat' (first|refine Z0 ?_|refine Z3 ?_|refine Z2 ?_|simp only [seval,push_cast,↓reduceIte,↓bP_some,↓aP_true,reduceCtorEq,hj,iaQ_tl hj,hx,srow_eq,seqV,hp]))
   rw [show findG (fun x=>x == y) l 0=(j:Int) by rw [hI,hd];exact if_pos hp]
   exact FnQ.ret rfl rfl
  | false=>
   (repeat' (first|refine Z0 ?_|refine Z3 ?_|refine Z2 ?_|simp only [seval,push_cast,↓reduceIte,↓bP_some,↓aP_true,reduceCtorEq,hj,iaQ_tl hj,hx,srow_eq,seqV,hp,hw]))
   refine qR_n rfl rfl ?_
   rw [hI,hd]
   exact if_neg (by simp [hp])
 ·intro hI
  refine Wn0 ?_
  rw [show findG (fun x=>x == y) l 0=-1 by rw [hI,List.drop_eq_nil_of_le (Nat.le_refl _)];rfl]
  exact FnQ.ret rfl rfl
theorem holdingR_v {s:Nat} {l:List (List UInt8×Int)} {c:Option Nat} (hs:s=2∨l=[]) (hl:l.length < 4611686018427387904):VFn L 116 [tl prow s l c] (.bool (l.any fun p=>decide (p.2=2))):=by
 refine VFn.start (F:=T116.1) (by rw [hL];rfl) rfl rfl rfl ?_
 refine Wn0 ?_
 refine wCnt rfl 3 l.length (fun _=>[]) (fun j=>(l.take j).any (fun p=>decide (p.2=2))=false) rfl (by simp) ?_ ?_
 ·intro j hj hI
  obtain ⟨x,hx,hm⟩:=get_of hj
  obtain rfl:=size_of hs hj
  have hw:=wrap_succ (show j < 9223372036854775807 by omega)
  by_cases h:x.2=2
  ·have d1:decide (x.2=2)=true:=decide_eq_true h
   rw [any_at hm d1]
   refine Wf0 (Q5 hj (iT hj) hx @prow_eq d1) ?_
   exact FnQ.ret rfl rfl
  ·have d1:decide (x.2=2)=false:=decide_eq_false h
   refine Wf0 (Q5 hj (iT hj) hx @prow_eq (Q2 d1 hw)) ?_
   refine qR_n rfl rfl ?_
   rw [take_snoc hx,List.any_append,hI]
   simp [h]
 ·intro hI
  rw [List.take_of_length_le (Nat.le_refl _)] at hI
  rw [hI]
  refine Wn0 ?_
  exact FnQ.ret rfl rfl
theorem withR_v {s:Nat} {l:List (List UInt8×Int)} {c:Option Nat} {i:Nat} {x:List UInt8×Int} {st:Int} (hs:s=2∨l=[]) (hl:l.length≤100000) (hx:l[i]?=some x):VFn L 114 [tl prow s l c,.int .i64 i,.int .i64 st] (tl prow 2 (l.set i (x.1,st)) none):=by
 have hi:=(List.getElem?_eq_some_iff.1 hx).1
 have h0:¬l.length=0:=by omega
 have hroom:l.length*24≤140737488355328:=by omega
 obtain rfl:=size_of hs hi
 refine VFn.start (F:=T114.1) (by rw [hL];rfl) rfl rfl rfl ?_
 refine Xf0 (Q5 @rowsOf_tlG hroom h0 (show ¬l.length≤0 by omega) (Q4 hi hx @prow_eq @prow_set1)) ?_
 rw [show l.length=(l.set i (x.1,st)).length by rw [List.length_set]]
 exact FnQ.frz [1] rfl (frz_refS' (f:=prow) (n:=2) (src:=[]) closed_prow (by decide) rfl rfl rfl)
end Go.Proofs.YtigdhgbkgfagiaaGreat
namespace Go.Proofs.YtigdhgbkgfagiaaGreat
structure Rs where
 ph:Int
 pe:List (List UInt8×Int)
 na:List (List UInt8)
 si:List Int
 bal:List (Int×List Int)
def vrowL (v:Int×List Int):List V:=[.int .u8 v.1,lsV mrow 1 v.2]
theorem closed_vrowL (v:Int×List Int):(vrowL v).all V.closed=true:=by simp [vrowL,V.closed,closed_lsV]
def rsC (s:Rs):List V:=[.int .i64 s.ph,lsV prow 2 s.pe,lsV srow 1 s.na,lsV mrow 1 s.si,lsV vrowL 2 s.bal]
section
variable {α:Type} {f:α→List V} {n i:Nat} {l:List α} {x:α} {g:Nat→Option Blk}
theorem lenQ_lsV:lenQ (lsV f n l)=some (.int .i64 l.length):=by
 obtain ⟨s,c,h,-⟩:=lsV_tl f n l
 rw [h,lenQ_tl]
theorem iaQ_lsV (h:i < l.length):iaQ n (lsV f n l) i=some (.iptr n (l.map f) i 0):=by
 have hne:l≠[]:=fun e=>by rw [e] at h;simp at h
 rw [show lsV f n l=tl f n l none from if_neg hne,iaQ_tl h]
theorem rowsOf_lsV:rowsOf n g (lsV f n l)=some (l.map f,[]):=by
 unfold lsV
 split
 ·rename_i h;subst h;simp [rowsOf,nilV]
 ·exact rowsOf_tlG
theorem lsV_snoc:lsV f n (l++[x])=tl f n (l++[x]) none:=if_neg (by simp)
end
section
variable {α:Type} {f:α→List V} {n a b bts N:Nat} {l:List α} {row:List V} {H:Heap}
theorem ap1 (hl:l≠[]) (ha:H.get a=some (.arr n [])) (hr:l.length*bts≤140737488355328):appendV N n bts (shG n H.get) (.ref a n 0 0 (some 0)) (lsV f n l)=some { v:=.ref N n 0 l.length none,need:=[a],new:=[.arr n (l.map f)] }:=by
 have hg:shG n H.get a=some (.arr n []):=by show (H.get a).map _=_;rw [ha];exact congrArg some shape_same
 have h0:¬l.length=0:=fun e=>hl (List.length_eq_zero_iff.1 e)
 unfold appendV
 rw [rowsOf_lsV,Option.bind_some]
 dsimp only
 rw [hg]
 simp only [List.length_nil,Nat.zero_add,Nat.le_refl,and_self,if_true,List.length_map]
 rw [if_neg (by omega)]
 unfold roomOk
 rw [if_pos (by simpa using hr)]
 simp
theorem ap2 {m:Nat} {rows:List (List V)} (hm:rows.length=m) (ha:H.get a=some (.arr n rows)) (hb:H.get b=some (.arr n [row])) (hr:(m+1)*bts≤140737488355328):appendV N n bts (shG n H.get) (.ref a n 0 m none) (.ref b n 0 1 (some 1))=some { v:=.ref N n 0 (m+1) none,need:=[a,b],upd:=[(a,none)],new:=[.arr n (rows++[row])] }:=by
 have hg:shG n H.get a=some (.arr n rows):=by show (H.get a).map _=_;rw [ha];exact congrArg some shape_same
 have hg2:shG n H.get b=some (.arr n [row]):=by show (H.get b).map _=_;rw [hb];exact congrArg some shape_same
 unfold appendV rowsOf
 dsimp only
 rw [hg2]
 simp only [List.length_singleton,Nat.zero_add,Nat.le_refl,and_self,if_true,Option.bind_some,List.drop_zero,List.take_succ_cons,List.take_nil]
 rw [hg]
 dsimp only
 rw [if_pos (by refine ⟨?_,?_,?_⟩ <;> first|trivial|omega),if_pos (by refine ⟨?_,?_,?_⟩ <;> first|trivial|omega|(unfold roomOk;simpa using hr))]
end
section
variable {L:Lib} {l:List AI} {rs:List Rec} {ms:List Nat} {K:Env→Heap→Prop} {E:Env} {H:Heap} {d:Option Nat} {anc:List Nat} {e:Eff}
theorem dops_ap {size bts:Nat} {x y:AOpd} {X Y:V} (hx:opval L.G E.get x=some X) (hy:opval L.G E.get y=some Y) (he:appendV H.length size bts (shG size H.get) X Y=some e) (hu:(e.upd.all fun p=>Nat.blt p.1 H.length)=true)
    (hi:indB (ancM ms anc) { dst:=d,looks:=AI.looks ⟨d,.append size bts x y,none,anc⟩,v:=some e.v,need:=e.need,eff:=e.all H.length,slot:=H.length,k:=e.new.length } 0 rs=true)
    (k:dopsP L l (rs++[{ dst:=d,looks:=AI.looks ⟨d,.append size bts x y,none,anc⟩,v:=some e.v,need:=e.need,eff:=e.all H.length,slot:=H.length,k:=e.new.length }]) (ms++[ancM ms anc]) K (E.put d e.v) (H.app e)):dopsP L (⟨d,.append size bts x y,none,anc⟩::l) rs ms K E H:=
 dops_op (e:=e) rfl rfl (by
  show ((opval L.G E.get x).bind _)=_
  rw [hx]
  show ((opval L.G E.get y).bind _)=_
  rw [hy]
  exact he) hu hi k
end
def castG (s:Rs) (i k:Nat) (v:Int×List Int):Rs×Bool:=
 if 64≤s.si[k]?.getD 0 then (s,false)
 else ({ s with si:=s.si.set k (s.si[k]?.getD 0+1),pe:=s.pe.set i ((s.pe[i]?.getD ([],0)).1,3),bal:=s.bal++[v] },true)
variable {L:Lib} (hL:L.T=tab.get)
include hL
theorem castC {s:Rs} {i k:Nat} {kd:Int} {ms:List Int} {ov:Int} {db:V} {p:List UInt8×Int} {v:Int} (hp:s.pe[i]?=some p) (hk:s.si[k]?=some v) (hv:0≤v) (hlp:s.pe.length≤1000) (hls:s.si.length≤1000) (hlb:s.bal.length≤1000) (hdb:db.closed=true) :
    SWP L 0 T115.val.ntmps T115.val.body.r.r.r.r.r.r.r (FnQ T115.val 0 fun r' H'=>r'=V.tup [.agg (rsC (castG s i k (kd,ms)).1),.bool (castG s i k (kd,ms)).2]∧H'=[])
     [(4,.ptr 0 5 0 0),(6,.ptr 1 5 0 0),(8,.int .i64 i),(9,.ptr 2 4 0 0),(11,.int .i64 k)]
     [some (.arr 5 [rsC s]),some (.arr 5 [[.int .i64 0,.lst 0 [] (some 0),.lst 0 [] (some 0),.lst 0 [] (some 0),.lst 0 [] (some 0)]]),some (.arr 4 [[.int .u8 kd,lsV mrow 1 ms,.int .i64 ov,db]])]:=by
 have hkl:k < s.si.length:=(List.getElem?_eq_some_iff.1 hk).1
 have hia:=iaQ_lsV (f:=mrow) (n:=1) hkl
 obtain ⟨s1,c1,e1,f1⟩:=lsV_tl prow 2 s.pe
 have kw:=withR_v hL (c:=c1) (st:=3) f1 (by omega) hp
 rw [←e1] at kw
 unfold castG
 rw [hk,hp]
 simp only [Option.getD_some]
 obtain ⟨ph,pe,na,si,bal⟩:=s
 obtain ⟨pn,ps⟩:=p
 dsimp only at *
 by_cases h64:64≤v
 ·rw [if_pos h64]
  unfold rsC
  refine Wf0 (Q5 hia hk @mrow_eq h64 (Q2 @cells_lsV @isVal_lsV)) ?_
  exact FnQ.ret rfl (by simp [V.closed,V.closeds,closed_lsV])
 ·rw [if_neg h64]
  have hw:IntKind.i64.wrap (v+1)=v+1:=wrap_i64 (by omega) (by omega)
  have h0:¬si.length≤0:=by omega
  have h0':¬si.length=0:=by omega
  have hroom:si.length*8≤140737488355328:=by omega
  unfold rsC
  dsimp only
  refine Xf1 (Q5 hia hk @mrow_eq h64 (Q5 @cells_lsV @isVal_lsV @rowsOf_lsV h0 (Q5 h0' hroom hw @mrow_set' hkl))) kw ?_
  have hsz:lsV mrow 1 (si.set k (v+1))=tl mrow 1 (si.set k (v+1)) none:=if_neg (fun h=>by have:=congrArg List.length h;simp at this;subst this;simp at hkl)
  have hpz:lsV prow 2 (pe.set i (pn,3))=tl prow 2 (pe.set i (pn,3)) none:=if_neg (fun h=>by
   have:=congrArg List.length h
   simp at this
   subst this
   simp at hp)
  refine wShift [some 0,some 1,some 2] [4] (E1:=[(4,V.ptr 0 5 0 0),(6,V.ptr 1 5 0 0),(9,V.ptr 2 4 0 0)]) (H1:=[some (.arr 5 [[.int .i64 ph,lsV prow 2 (pe.set i (pn,3)),lsV srow 1 na,lsV mrow 1 (si.set k (v+1)),lsV vrowL 2 bal]]),some (.arr 5 [[.int .i64 0,.lst 0 [] (some 0),.lst 0 [] (some 0),.lst 0 [] (some 0),.lst 0 [] (some 0)]]),some (.arr 4 [[.int .u8 kd,lsV mrow 1 ms,.int .i64 ov,db]])]) rfl rfl ?_ ?_
  ·refine sh_c (congrArg some ?_) (sh_c rfl (sh_c (congrArg some ?_) sh_n))
   ·rw [hpz,hsz]
    have hfr:=frz_refS' (f:=mrow) (n:=1) (l:=si.set k (v+1)) (c:=none) (src:=[some 0,some 1,some 2]) (fz:=[4]) (a:=4) (H:=[some (Blk.arr 5 [[V.int .i64 ph,tl prow 2 (pe.set i (pn,3)) none,lsV srow 1 na,V.ref 4 1 0 si.length none,lsV vrowL 2 bal]]),some (Blk.arr 5 [[V.int .i64 0,V.lst 0 [] (some 0),V.lst 0 [] (some 0),V.lst 0 [] (some 0),V.lst 0 [] (some 0)]]),some (Blk.arr 4 [[V.int .u8 kd,lsV mrow 1 ms,V.int .i64 ov,db]]),some (Blk.arr 1 []),some (Blk.arr 1 (List.map mrow (si.set k (v+1))))]) closed_mrow (by decide) rfl rfl rfl
    rw [List.length_set] at hfr
    show Blk.arr 5 [[V.int .i64 ph,tl prow 2 (pe.set i (pn,3)) none,V.ren _ (lsV srow 1 na),V.ren _ (V.ref 4 1 0 si.length none),V.ren _ (lsV vrowL 2 bal)]]=_
    rw [V.ren_closed _ closed_lsV,V.ren_closed _ closed_lsV,hfr]
   ·show Blk.arr 4 [[V.int .u8 kd,V.ren _ (lsV mrow 1 ms),V.int .i64 ov,V.ren _ db]]=_
    rw [V.ren_closed _ closed_lsV,V.ren_closed _ hdb]
  ·have hw1:(lsV prow 2 (pe.set i (pn,3))).closed=true:=closed_lsV
   have hw2:(lsV srow 1 na).closed=true:=closed_lsV
   have hw3:(lsV mrow 1 (si.set k (v+1))).closed=true:=closed_lsV
   have q1:=cells_lsV (f:=prow) (n:=2) (l:=pe.set i (pn,3))
   have q2:=cells_lsV (f:=srow) (n:=1) (l:=na)
   have q3:=cells_lsV (f:=mrow) (n:=1) (l:=si.set k (v+1))
   generalize lsV prow 2 (pe.set i (pn,3))=w1 at *
   generalize lsV srow 1 na=w2 at *
   generalize lsV mrow 1 (si.set k (v+1))=w3 at *
   refine wDrawD rfl ?_
   refine dops_op rfl rfl rfl rfl (by kernel_rfl) ?_;refine dops_op rfl rfl rfl rfl (by kernel_rfl) ?_;refine dops_op rfl rfl rfl rfl (by kernel_rfl) ?_
   simp only [seval,push_cast,↓reduceIte,↓bP_some,↓aP_true,reduceCtorEq,happ_eq,upds_nil,upds_cons,List.map_nil,List.append_nil]
   have hfin:∀(σ:Nat→Sg) (a:Nat),V.ren σ (.ref a 2 0 (bal.length+1) none)=lsV vrowL 2 (bal++[(kd,ms)])→V.ren σ (.tup [.agg [.int .i64 ph,w1,w2,w3,.ref a 2 0 (bal.length+1) none],.bool true])=V.tup [.agg [.int .i64 ph,w1,w2,w3,lsV vrowL 2 (bal++[(kd,ms)])],.bool true]:=fun σ a h=>by
    show V.tup [.agg [.int .i64 ph,V.ren σ w1,V.ren σ w2,V.ren σ w3,V.ren σ (.ref a 2 0 (bal.length+1) none)],.bool true]=_
    rw [V.ren_closed _ hw1,V.ren_closed _ hw2,V.ren_closed _ hw3,h]
   have hfz:∀(H:Heap) (a:Nat),H.get a=some (.arr 2 ((bal++[(kd,ms)]).map vrowL))→V.ren (sgOf H [] [a]) (.ref a 2 0 (bal.length+1) none)=lsV vrowL 2 (bal++[(kd,ms)]):=fun H a h=>by
    rw [lsV_snoc]
    have:=frz_refS' (f:=vrowL) (n:=2) (l:=bal++[(kd,ms)]) (c:=none) (src:=[]) (fz:=[a]) (a:=a) closed_vrowL (by decide) rfl (by simp) h
    rw [List.length_append] at this
    exact this
   by_cases hb:bal=[]
   ·subst hb
    refine dops_op rfl rfl rfl rfl (by kernel_rfl) ?_;refine dops_op rfl rfl rfl rfl (by kernel_rfl) ?_;refine dops_op rfl rfl rfl rfl (by kernel_rfl) ?_;refine dops_op rfl rfl rfl rfl (by kernel_rfl) ?_
    simp only [seval,push_cast,↓reduceIte,↓bP_some,↓aP_true,reduceCtorEq,happ_eq,upds_nil,upds_cons,List.map_nil,List.append_nil]
    refine dops_op rfl rfl rfl rfl (by kernel_rfl) ?_;refine dops_op rfl rfl rfl rfl (by kernel_rfl) ?_;refine dops_op rfl rfl rfl rfl (by kernel_rfl) ?_
    refine dops_nil ?_
    refine Xf0 (Q3 q1 q2 q3) ?_
    exact FnQ.frz [5] rfl (hfin _ 5 (hfz _ 5 rfl))
   ·refine dops_ap rfl rfl (ap1 (f:=vrowL) (n:=2) (a:=3) hb rfl (by omega)) rfl (by kernel_rfl) ?_
    simp only [seval,push_cast,↓reduceIte,↓bP_some,↓aP_true,reduceCtorEq,happ_eq,upds_nil,upds_cons,List.map_nil,List.append_nil]
    refine dops_op rfl rfl rfl rfl (by kernel_rfl) ?_;refine dops_op rfl rfl rfl rfl (by kernel_rfl) ?_;refine dops_op rfl rfl rfl rfl (by kernel_rfl) ?_
    simp only [seval,push_cast,↓reduceIte,↓bP_some,↓aP_true,reduceCtorEq,happ_eq,upds_nil,upds_cons,List.map_nil,List.append_nil]
    refine dops_ap rfl rfl (ap2 (n:=2) (a:=4) (b:=5) (m:=bal.length) (rows:=bal.map vrowL) (by simp) rfl rfl (by omega)) rfl (by kernel_rfl) ?_
    simp only [seval,push_cast,↓reduceIte,↓bP_some,↓aP_true,reduceCtorEq,happ_eq,upds_nil,upds_cons,List.map_nil,List.append_nil]
    refine dops_op rfl rfl rfl rfl (by kernel_rfl) ?_;refine dops_op rfl rfl rfl rfl (by kernel_rfl) ?_
    refine dops_nil ?_
    refine Xf0 (Q3 q1 q2 q3) ?_
    exact FnQ.frz [6] rfl (hfin _ 6 (hfz _ 6 (congrArg (fun r=>some (Blk.arr 2 r)) (List.map_append (f:=vrowL) (l₁:=bal) (l₂:=[(kd,ms)])).symm)))
end Go.Proofs.YtigdhgbkgfagiaaGreat
