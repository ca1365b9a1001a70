/- Sheets, by the reference: scores, decisions, boxes marked and in doubt, walked. · Contests, by the reference, walked. · Contests and sheets, by the reference: May, Check, walked. -/
import Derived.Test.YtigdhgbkgfagiaaGreatVM1
import Derived.Test.YtigdhgbkgfagiaaGreatVM2
import Derived.Test.YtigdhgbkgfagiaaGreatVPB
import Derived.Test.YtigdhgbkgfagiaaGreatVQ2
import Derived.Test.YtigdhgbkgfagiaaGreatVA3
import Derived.Test.YtigdhgbkgfagiaaGreatVN4
set_option maxRecDepth 100000
set_option maxHeartbeats 4000000
set_option linter.unusedVariables false
set_option linter.unusedSimpArgs false
namespace Go.Proofs.YtigdhgbkgfagiaaGreat
def okPolR (lo hi skips:Int):Bool:=decide (1≤lo)&&(decide (lo≤hi)&&(decide (hi≤100)&&(decide (0≤skips)&&decide (skips≤10))))
variable {L:Lib} (hL:L.T=tab.get)
include hL
theorem polR_v {lo hi skips:Int}:VFn L 70 [.agg [.int .u8 lo,.int .u8 hi,.int .i64 skips]] (.bool (okPolR lo hi skips)):=by
 refine VFn.start (F:=T70.1) (by rw [hL];rfl) rfl rfl rfl ?_
 unfold okPolR
 by_cases h1:1≤lo
 ·rw [decide_eq_true h1,Bool.true_and]
  by_cases h2:lo≤hi
  ·rw [decide_eq_true h2,Bool.true_and]
   by_cases h3:hi≤100
   ·rw [decide_eq_true h3,Bool.true_and]
    by_cases h4:0≤skips
    ·rw [decide_eq_true h4,Bool.true_and]
     refine Wf0 (Q4 h1 h2 h3 h4) ?_
     exact FnQ.ret rfl rfl
    ·rw [decide_eq_false h4,Bool.false_and]
     refine Wf0 (Q4 h1 h2 h3 h4) ?_
     exact FnQ.ret rfl rfl
   ·rw [decide_eq_false h3,Bool.false_and]
    refine Wf0 (Q3 h1 h2 h3) ?_
    exact FnQ.ret rfl rfl
  ·rw [decide_eq_false h2,Bool.false_and]
   refine Wf0 (Q2 h1 h2) ?_
   exact FnQ.ret rfl rfl
 ·rw [decide_eq_false h1,Bool.false_and]
  refine Wf0 h1 ?_
  exact FnQ.ret rfl rfl
end Go.Proofs.YtigdhgbkgfagiaaGreat
namespace Go.Proofs.YtigdhgbkgfagiaaGreat
def isB (r:Nat):Bool:=decide (1≤r)&&decide (r≤16)
def oneB (r:Nat):Bool:=decide (5≤r)&&decide (r≤10)
def listsB (r:Nat):Bool:=decide (14≤r)&&decide (r≤16)
def candsB (l:List (List UInt8)):Bool:=l.all namedS&&!twiceL l 0 l.length
def seatsB (c:Ct):Bool:=if oneB c.rule then decide (c.seats=1) else (listsB c.rule||decide (c.seats≤c.cands.length))
def mayB (c:Ct):Bool:=namedS c.name&&(decide (1≤c.cands.length)&&(decide (c.cands.length≤10)&&(isB c.rule&&(decide (1≤c.seats)&&(decide (c.seats≤10)&&(candsB c.cands&&seatsB c))))))
theorem twice_iff {l:List (List UInt8)}:∀(n j:Nat),twiceL l j n=true↔∃i x,j≤i∧i < j+n∧l[i]?=some x∧x∈l.take i
 | 0,j=>by
  simp only [twiceL]
  exact ⟨fun h=>(by cases h),fun ⟨i,_,h1,h2,_⟩=>absurd h2 (by omega)⟩
 | n+1,j=>by
  unfold twiceL
  rw [Bool.or_eq_true,twice_iff n (j+1)]
  constructor
  ·rintro (h|⟨i,x,h1,h2,h3,h4⟩)
   ·cases hx:l[j]? with
    | none=>rw [hx] at h;cases h
    | some x=>
     rw [hx] at h
     exact ⟨j,x,Nat.le_refl _,by omega,hx,by simpa using h⟩
   ·exact ⟨i,x,by omega,by omega,h3,h4⟩
  ·rintro ⟨i,x,h1,h2,h3,h4⟩
   by_cases hij:i=j
   ·subst hij
    left
    rw [h3]
    simpa using h4
   ·exact .inr ⟨i,x,by omega,by omega,h3,h4⟩
theorem seats_eq {r:Nat}:(isB r=true∧(if oneB r then seatsR r=1 else if listsB r then seatsR r=3 else seatsR r=2))∨(isB r=false∧seatsR r=0):=by
 by_cases h:isB r=true
 ·refine .inl ⟨h,?_⟩
  unfold isB at h
  simp at h
  have h':r=1∨r=2∨r=3∨r=4∨r=5∨r=6∨r=7∨r=8∨r=9∨r=10∨r=11∨r=12∨r=13∨r=14∨r=15∨r=16:=by omega
  rcases h' with rfl|rfl|rfl|rfl|rfl|rfl|rfl|rfl|rfl|rfl|rfl|rfl|rfl|rfl|rfl|rfl <;> rfl
 ·refine .inr ⟨by simpa using h,?_⟩
  unfold isB at h
  simp at h
  by_cases h0:r=0
  ·subst h0;rfl
  ·have:=h (by omega)
   unfold seatsR
   rw [rule_hi (by omega)]
theorem all_named {l:List (List UInt8)}:l.all namedS=!l.any oddS:=by
 rw [List.not_any_eq_all_not];rfl
theorem may_eq {c:Ct}:mayB c=(decide (c.cands.length≤10)&&okCt c):=by
 have hs:=seats_eq (r:=c.rule)
 unfold mayB okCt fitsC candsB seatsB
 rw [all_named,show namedS c.name=!oddS c.name from rfl]
 have hn:decide (1≤c.cands.length)=!decide (c.cands=[]):=by
  cases c.cands <;> simp
 rw [hn]
 generalize oddS c.name=b1
 generalize c.cands.any oddS=b2
 generalize twiceL c.cands 0 c.cands.length=b3
 generalize decide (c.cands=[])=b4
 generalize decide (c.cands.length≤10)=b5
 rcases hs with ⟨h1,h2⟩|⟨h1,h2⟩
 ·rw [h1]
  cases ho:oneB c.rule with
  | true=>
   rw [ho,if_pos rfl] at h2
   rw [if_pos h2,if_pos rfl]
   cases b1 <;> cases b2 <;> cases b3 <;> cases b4 <;> cases b5 <;> simp [Bool.and_assoc]
  | false=>
   rw [ho,if_neg (by simp)] at h2
   rw [if_neg (by simp)]
   cases hl:listsB c.rule with
   | true=>
    rw [hl,if_pos rfl] at h2
    rw [h2]
    cases b1 <;> cases b2 <;> cases b3 <;> cases b4 <;> cases b5 <;> simp [Bool.and_assoc]
   | false=>
    rw [hl,if_neg (by simp)] at h2
    rw [h2]
    cases b1 <;> cases b2 <;> cases b3 <;> cases b4 <;> cases b5 <;> simp [Bool.and_assoc]
 ·rw [h1,h2]
  cases b1 <;> cases b2 <;> cases b3 <;> cases b4 <;> cases b5 <;> simp [Bool.and_assoc]
variable {L:Lib} (hL:L.T=tab.get)
include hL
theorem isR_v {r:Nat}:VFn L 128 [.int .u8 r] (.bool (isB r)):=by
 refine VFn.start (F:=T128.1) (by rw [hL];rfl) rfl rfl rfl ?_
 unfold isB
 by_cases h1:1≤r
 ·rw [decide_eq_true h1,Bool.true_and]
  by_cases h2:r≤16
  ·rw [decide_eq_true h2]
   refine Wf0 (Q2 (show (1:Int)≤r by omega) (show (r:Int)≤16 by omega)) ?_
   exact FnQ.ret rfl rfl
  ·rw [decide_eq_false h2]
   refine Wf0 (Q2 (show (1:Int)≤r by omega) (show ¬(r:Int)≤16 by omega)) ?_
   exact FnQ.ret rfl rfl
 ·rw [decide_eq_false h1,Bool.false_and]
  refine Wf0 (show ¬(1:Int)≤r by omega) ?_
  exact FnQ.ret rfl rfl
theorem oneR_v {r:Nat}:VFn L 129 [.int .u8 r] (.bool (oneB r)):=by
 refine VFn.start (F:=T129.1) (by rw [hL];rfl) rfl rfl rfl ?_
 unfold oneB
 by_cases h1:5≤r
 ·rw [decide_eq_true h1,Bool.true_and]
  by_cases h2:r≤10
  ·rw [decide_eq_true h2]
   refine Wf0 (Q2 (show (5:Int)≤r by omega) (show (r:Int)≤10 by omega)) ?_
   exact FnQ.ret rfl rfl
  ·rw [decide_eq_false h2]
   refine Wf0 (Q2 (show (5:Int)≤r by omega) (show ¬(r:Int)≤10 by omega)) ?_
   exact FnQ.ret rfl rfl
 ·rw [decide_eq_false h1,Bool.false_and]
  refine Wf0 (show ¬(5:Int)≤r by omega) ?_
  exact FnQ.ret rfl rfl
theorem listsR_v {r:Nat}:VFn L 130 [.int .u8 r] (.bool (listsB r)):=by
 refine VFn.start (F:=T130.1) (by rw [hL];rfl) rfl rfl rfl ?_
 unfold listsB
 by_cases h1:14≤r
 ·rw [decide_eq_true h1,Bool.true_and]
  by_cases h2:r≤16
  ·rw [decide_eq_true h2]
   refine Wf0 (Q2 (show (14:Int)≤r by omega) (show (r:Int)≤16 by omega)) ?_
   exact FnQ.ret rfl rfl
  ·rw [decide_eq_false h2]
   refine Wf0 (Q2 (show (14:Int)≤r by omega) (show ¬(r:Int)≤16 by omega)) ?_
   exact FnQ.ret rfl rfl
 ·rw [decide_eq_false h1,Bool.false_and]
  refine Wf0 (show ¬(14:Int)≤r by omega) ?_
  exact FnQ.ret rfl rfl
theorem nameR_v {s:List UInt8} (hs:s.length < 4611686018427387904):VFn L 113 [.str s] (.bool (namedS s)):=by
 refine VFn.start (F:=T113.1) (by rw [hL];rfl) rfl rfl rfl ?_
 by_cases h0:s.length < 1
 ·obtain rfl:s=[]:=by cases s with|nil=>rfl|cons x r=>simp at h0
  rw [show namedS []=false from rfl]
  refine Wn0 ?_
  exact FnQ.ret rfl rfl
 ·by_cases h1:40 < s.length
  ·have hbad:namedS s=false:=by
     unfold namedS oddS
     rw [decide_eq_true (.inr h1)];rfl
   rw [hbad]
   refine Wf0 (Q2 (show ¬(s.length:Int) < 1 by omega) (show (40:Int) < s.length by omega)) ?_
   exact FnQ.ret rfl rfl
  ·refine Wf0 (Q2 (show ¬(s.length:Int) < 1 by omega) (show ¬(40:Int) < s.length by omega)) ?_
   refine wCnt rfl 3 s.length (fun _=>[]) (fun j=>(s.take j).any badB=false) rfl (by simp) ?_ ?_
   ·intro j hj hI
    obtain ⟨b,hb,hm⟩:=get_of hj
    have hw:=wrap_succ (show j < 9223372036854775807 by omega)
    by_cases h2:b.toNat < 33
    ·have hbad:namedS s=false:=by
       unfold namedS oddS
       rw [show s.any badB=true from List.any_eq_true.2 ⟨b,hm,by unfold badB;exact decide_eq_true (.inl h2)⟩]
       simp
     rw [hbad]
     refine Wf0 (Q3 hj hb (show (b.toNat:Int) < 33 by omega)) ?_
     exact FnQ.ret rfl rfl
    ·by_cases h3:126 < b.toNat
     ·have hbad:namedS s=false:=by
        unfold namedS oddS
        rw [show s.any badB=true from List.any_eq_true.2 ⟨b,hm,by unfold badB;exact decide_eq_true (.inr h3)⟩]
        simp
      rw [hbad]
      refine Wf0 (Q4 hj hb (show ¬(b.toNat:Int) < 33 by omega) (show (126:Int) < b.toNat by omega)) ?_
      exact FnQ.ret rfl rfl
     ·refine Wf0 (Q5 hj hb (show ¬(b.toNat:Int) < 33 by omega) (show ¬(126:Int) < b.toNat by omega) hw) ?_
      refine qR_n rfl rfl ?_
      rw [take_snoc hb,List.any_append,hI]
      simp [badB,h2,h3]
   ·intro hI
    rw [List.take_of_length_le (Nat.le_refl _)] at hI
    have hgood:namedS s=true:=by
     unfold namedS oddS
     rw [hI,decide_eq_false (by intro h;rcases h with h|h;· subst h;simp at h0
                                ·omega)];rfl
    rw [hgood]
    refine Wn0 ?_
    exact FnQ.ret rfl rfl
end Go.Proofs.YtigdhgbkgfagiaaGreat
namespace Go.Proofs.YtigdhgbkgfagiaaGreat
variable {L:Lib} (hL:L.T=tab.get)
include hL
theorem may_v {c:Ct} {s:Nat} {k:Option Nat} (hs:s=1∨c.cands=[]) (hn:c.name.length < 4611686018427387904) (hc:∀x∈c.cands,x.length < 4611686018427387904):VFn L 69 [.agg [.str c.name,tl srow s c.cands k,.int .i64 c.seats,.int .u8 c.rule]] (.bool (mayB c)):=by
 have kn:=nameR_v hL (s:=c.name) hn
 have ki:=isR_v hL (r:=c.rule)
 have ko:=oneR_v hL (r:=c.rule)
 have kl:=listsR_v hL (r:=c.rule)
 refine VFn.start (F:=T69.1) (by rw [hL];rfl) rfl rfl rfl ?_
 unfold mayB
 cases hN:namedS c.name with
 | false=>
  rw [hN] at kn
  rw [Bool.false_and]
  (repeat' (first|refine Z0 ?_|refine Z3 ?_|refine Z2 ?_|refine opsV_call rfl rfl (kn) ?_|simp only [seval,push_cast,↓reduceIte,↓bP_some,↓aP_true,reduceCtorEq]))
  exact FnQ.ret rfl rfl
 | true=>
  rw [hN] at kn
  rw [Bool.true_and]
  by_cases h1:1≤c.cands.length
  ·rw [decide_eq_true h1,Bool.true_and]
   have h1':¬(c.cands.length:Int) < 1:=by omega
   by_cases h2:c.cands.length≤10
   ·rw [decide_eq_true h2,Bool.true_and]
    have h2':¬(10:Int) < c.cands.length:=by omega
    cases hI:isB c.rule with
    | false=>
     rw [hI] at ki
     rw [Bool.false_and]
     (repeat' (first|refine Z0 ?_|refine Z3 ?_|refine Z2 ?_|refine opsV_call rfl rfl (kn) ?_|refine opsV_call rfl rfl (ki) ?_|simp only [seval,push_cast,↓reduceIte,↓bP_some,↓aP_true,reduceCtorEq,h1',h2']))
     exact FnQ.ret rfl rfl
    | true=>
     rw [hI] at ki
     rw [Bool.true_and]
     by_cases h3:1≤c.seats
     ·rw [decide_eq_true h3,Bool.true_and]
      have h3':¬c.seats < 1:=by omega
      by_cases h4:c.seats≤10
      ·rw [decide_eq_true h4,Bool.true_and]
       have h4':¬10 < c.seats:=by omega
       (repeat' (first|refine Z0 ?_|refine Z3 ?_|refine Z2 ?_|refine opsV_call rfl rfl (kn) ?_|refine opsV_call rfl rfl (ki) ?_|simp only [seval,push_cast,↓reduceIte,↓bP_some,↓aP_true,reduceCtorEq,h1',h2',h3',h4']))
       refine wCnt rfl 3 c.cands.length (fun _=>[]) (fun j=>(c.cands.take j).all namedS=true∧∀i x,i < j→c.cands[i]?=some x→¬x∈c.cands.take i) rfl ⟨rfl,fun i x h=>absurd h (by omega)⟩ ?_ ?_
       ·rintro j hj ⟨i1,i2⟩
        obtain ⟨x,hx,hm⟩:=get_of hj
        obtain rfl:=size_of hs hj
        have hw:=wrap_succ (show j < 9223372036854775807 by omega)
        have kx:=nameR_v hL (s:=x) (hc x hm)
        cases hX:namedS x with
        | false=>
         rw [hX] at kx
         have hf:candsB c.cands=false:=by
          unfold candsB
          rw [show c.cands.all namedS=false from List.all_eq_false.2 ⟨x,hm,by rw [hX];simp⟩];rfl
         rw [hf,Bool.false_and]
         (repeat' (first|refine Z0 ?_|refine Z3 ?_|refine Z2 ?_|refine opsV_call rfl rfl (kx) ?_|simp only [seval,push_cast,↓reduceIte,↓bP_some,↓aP_true,reduceCtorEq,hj,iaQ_tl hj,hx,srow_eq]))
         exact FnQ.ret rfl rfl
        | true=>
         rw [hX] at kx
         (repeat' (first|refine Z0 ?_|refine Z3 ?_|refine Z2 ?_|refine opsV_call rfl rfl (kx) ?_|simp only [seval,push_cast,↓reduceIte,↓bP_some,↓aP_true,reduceCtorEq,hj,iaQ_tl hj,hx,srow_eq]))
         refine wCnt rfl 4 j (fun _=>[]) (fun k=>¬x∈c.cands.take k) rfl (by simp) ?_ ?_
         ·intro k hk hK
          have hk':k < c.cands.length:=by omega
          obtain ⟨y,hy,hn⟩:=get_of hk'
          have hw2:=wrap_succ (show k < 9223372036854775807 by omega)
          by_cases hxy:y=x
          ·have hb:(y == x)=true:=by simp [hxy]
           have hf:candsB c.cands=false:=by
            unfold candsB
            rw [show twiceL c.cands 0 c.cands.length=true from (twice_iff _ _).2 ⟨j,x,by omega,by omega,hx,by
             rw [←hxy]
             exact List.mem_of_getElem? (i:=k) (by rw [List.getElem?_take,if_pos hk];exact hy)⟩]
            simp
           rw [hf,Bool.false_and]
           (repeat' (first|refine Z0 ?_|refine Z3 ?_|refine Z2 ?_|simp only [seval,push_cast,↓reduceIte,↓bP_some,↓aP_true,reduceCtorEq,show (k:Int) < j by omega,iaQ_tl hj,hx,srow_eq,iaQ_tl hk',hy,seqV,hb]))
           exact FnQ.ret rfl rfl
          ·have hb:(y == x)=false:=by simp [hxy]
           (repeat' (first|refine Z0 ?_|refine Z3 ?_|refine Z2 ?_|simp only [seval,push_cast,↓reduceIte,↓bP_some,↓aP_true,reduceCtorEq,show (k:Int) < j by omega,iaQ_tl hj,hx,srow_eq,iaQ_tl hk',hy,seqV,hb,hw2]))
           refine qR_n rfl rfl ?_
           rw [take_snoc hy]
           simp only [List.mem_append,List.mem_singleton,not_or]
           exact ⟨hK,fun e=>hxy e.symm⟩
         ·intro hK
          refine Wf0 hw ?_
          refine qR_n rfl rfl ⟨?_,?_⟩
          ·rw [take_snoc hx,List.all_append,i1]
           simp [hX]
          ·intro i y hi hy
           by_cases hij:i=j
           ·subst hij
            rw [hx] at hy;cases hy
            exact hK
           ·exact i2 i y (by omega) hy
       ·rintro ⟨i1,i2⟩
        rw [List.take_of_length_le (Nat.le_refl _)] at i1
        have ht:candsB c.cands=true:=by
         unfold candsB
         rw [i1,show twiceL c.cands 0 c.cands.length=false by
          cases h:twiceL c.cands 0 c.cands.length with
          | false=>rfl
          | true=>
           obtain ⟨i,x,h1,h2,h3,h4⟩:=(twice_iff _ _).1 h
           exact absurd h4 (i2 i x (by omega) h3)]
         rfl
        rw [ht,Bool.true_and]
        unfold seatsB
        cases hO:oneB c.rule with
        | true=>
         rw [hO] at ko
         rw [if_pos rfl]
         refine Wn1 ko ?_
         exact FnQ.ret rfl rfl
        | false=>
         rw [hO] at ko
         rw [if_neg (by simp)]
         cases hLs:listsB c.rule with
         | true=>
          rw [hLs] at kl
          rw [Bool.true_or]
          refine Wn2 ko kl ?_
          exact FnQ.ret rfl rfl
         | false=>
          rw [hLs] at kl
          rw [Bool.false_or]
          refine Wn2 ko kl ?_
          exact FnQ.ret rfl rfl
      ·rw [decide_eq_false h4,Bool.false_and]
       refine Wf2 (Q4 h1' h2' h3' (show 10 < c.seats by omega)) kn ki ?_
       exact FnQ.ret rfl rfl
     ·rw [decide_eq_false h3,Bool.false_and]
      refine Wf2 (Q3 h1' h2' (show c.seats < 1 by omega)) kn ki ?_
      exact FnQ.ret rfl rfl
   ·rw [decide_eq_false h2,Bool.false_and]
    refine Wf1 (Q2 h1' (show (10:Int) < c.cands.length by omega)) kn ?_
    exact FnQ.ret rfl rfl
  ·rw [decide_eq_false h1,Bool.false_and]
   refine Wf1 (show (c.cands.length:Int) < 1 by omega) kn ?_
   exact FnQ.ret rfl rfl
end Go.Proofs.YtigdhgbkgfagiaaGreat
