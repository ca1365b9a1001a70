/- What is too great to be looked at, by the reference and the law, walked. · Deeds too great to be looked at; what is the same, by the reference, walked. -/
import Derived.Test.YtigdhgbkgfagiaaGreatVM2
import Derived.Test.YtigdhgbkgfagiaaGreatVPA
set_option maxRecDepth 100000
set_option maxHeartbeats 4000000
set_option linter.unusedVariables false
set_option linter.unusedSimpArgs false
namespace Go.Proofs.YtigdhgbkgfagiaaGreat
def long3 (n:Nat):Bool:=decide (24 < n)&&decide (n≤96)
def long4 (a b:Nat):Bool:=long3 a||(long3 b||(decide (200 < a)||decide (200 < b)))
def great7 (name:List UInt8) (cands:List (List UInt8)):Bool:=decide (100 < cands.length)||(decide (1000 < name.length)||cands.any fun x=>decide (1000 < x.length))
def greatT (t:Tm):Bool:=great7 t.name t.cands.l||(long4 t.dnum.l.length t.dden.l.length||(long4 t.lnum.l.length t.lden.l.length||decide (100 < t.rounds.l.length)))
def great8 (b:Int×Nl Int):Bool:=decide (60 < b.2.l.length)
def great26 (l:List Hb):Bool:=decide (20 < l.length)||l.any fun b=>decide (70 < b.bals.l.length)||(decide (1000 < b.name.length)||b.bals.l.any great8)
theorem balrow_eq (b:Int×Nl Int):balrow b=[.int .u8 b.1,nlv mrow 1 b.2]:=rfl
theorem hbrow_eq (b:Hb):hbrow b=[.str b.name,nlv balrow 2 b.bals]:=rfl
theorem any_at {α:Type} {p:α→Bool} {l:List α} {x:α} (hm:x∈l) (hp:p x=true):l.any p=true:=List.any_eq_true.2 ⟨x,hm,hp⟩
variable {L:Lib} (hL:L.T=tab.get)
include hL
theorem long3_v {o:Nl Nat} (hl:o.l.length < 4611686018427387904):VFn L 62 [nlv nrow 1 o] (.bool (long3 o.l.length)):=by
 refine VFn.start (F:=T62.1) (by rw [hL];rfl) rfl (by simp [V.closeds,closed_nlv]) rfl ?_
 unfold long3
 by_cases h1:24 < o.l.length
 ·rw [decide_eq_true h1,Bool.true_and]
  by_cases h2:o.l.length≤96
  ·rw [decide_eq_true h2]
   refine Wf0 (Q2 (show (24:Int) < o.l.length by omega) (show (o.l.length:Int)≤96 by omega)) ?_
   exact FnQ.ret rfl rfl
  ·rw [decide_eq_false h2]
   refine Wf0 (Q2 (show (24:Int) < o.l.length by omega) (show ¬(o.l.length:Int)≤96 by omega)) ?_
   exact FnQ.ret rfl rfl
 ·rw [decide_eq_false h1,Bool.false_and]
  refine Wf0 (show ¬(24:Int) < o.l.length by omega) ?_
  exact FnQ.ret rfl rfl
theorem long4_v {neg:Bool} {a b:Nl Nat} (ha:a.l.length < 4611686018427387904) (hb:b.l.length < 4611686018427387904):VFn L 23 [.agg [.bool neg,nlv nrow 1 a,nlv nrow 1 b]] (.bool (long4 a.l.length b.l.length)):=by
 have k1:=long3_v hL ha
 have k2:=long3_v hL hb
 refine VFn.start (F:=T23.1) (by rw [hL];rfl) rfl (by simp [V.closeds,V.closed,closed_nlv]) rfl ?_
 unfold long4
 cases h1:long3 a.l.length with
 | true=>
  rw [h1] at k1
  refine Wn1 k1 ?_
  exact FnQ.ret rfl rfl
 | false=>
  rw [h1] at k1
  cases h2:long3 b.l.length with
  | true=>
   rw [h2] at k2
   refine Wn2 k1 k2 ?_
   exact FnQ.ret rfl rfl
  | false=>
   rw [h2] at k2
   by_cases h3:200 < a.l.length
   ·rw [decide_eq_true h3]
    refine Wf2 (show (200:Int) < a.l.length by omega) k1 k2 ?_
    exact FnQ.ret rfl rfl
   ·rw [decide_eq_false h3]
    by_cases h4:200 < b.l.length
    ·rw [decide_eq_true h4]
     refine Wf2 (Q2 (show ¬(200:Int) < a.l.length by omega) (show (200:Int) < b.l.length by omega)) k1 k2 ?_
     exact FnQ.ret rfl rfl
    ·rw [decide_eq_false h4]
     refine Wf2 (Q2 (show ¬(200:Int) < a.l.length by omega) (show ¬(200:Int) < b.l.length by omega)) k1 k2 ?_
     exact FnQ.ret rfl rfl
theorem great7_v {name:List UInt8} {o:Nl (List UInt8)} {seats rule:Int} (hl:o.l.length < 4611686018427387904):VFn L 22 [.agg [.str name,nlv srow 1 o,.int .i64 seats,.int .u8 rule]] (.bool (great7 name o.l)):=by
 refine VFn.start (F:=T22.1) (by rw [hL];rfl) rfl (by simp [V.closeds,V.closed,closed_nlv]) rfl ?_
 unfold great7
 by_cases h1:100 < o.l.length
 ·rw [decide_eq_true h1]
  refine Wf0 (show (100:Int) < o.l.length by omega) ?_
  exact FnQ.ret rfl rfl
 ·rw [decide_eq_false h1,Bool.false_or]
  have h1':¬(100:Int) < o.l.length:=by omega
  by_cases h2:1000 < name.length
  ·rw [decide_eq_true h2]
   refine Wf0 (Q2 h1' (show (1000:Int) < name.length by omega)) ?_
   exact FnQ.ret rfl rfl
  ·rw [decide_eq_false h2,Bool.false_or]
   refine Wf0 (Q2 h1' (show ¬(1000:Int) < name.length by omega)) ?_
   refine wCnt rfl 3 o.l.length (fun _=>[]) (fun j=>(o.l.take j).any (fun x=>decide (1000 < x.length))=false) rfl (by simp) ?_ ?_
   ·intro j hj hI
    obtain ⟨x,hx,hm⟩:=get_of hj
    have hw:=wrap_succ (show j < 9223372036854775807 by omega)
    by_cases h3:1000 < x.length
    ·rw [any_at hm (decide_eq_true h3)]
     refine Wf0 (Q5 hj (iN hj) hx @srow_eq (show (1000:Int) < x.length by omega)) ?_
     exact FnQ.ret rfl rfl
    ·refine Wf0 (Q5 hj (iN hj) hx @srow_eq (Q2 (show ¬(1000:Int) < x.length by omega) hw)) ?_
     refine qR_n rfl rfl ?_
     rw [take_snoc hx,List.any_append,hI]
     simp [h3]
   ·intro hI
    rw [List.take_of_length_le (Nat.le_refl _)] at hI
    rw [hI]
    refine Wn0 ?_
    exact FnQ.ret rfl rfl
theorem greatT_v {t:Tm} (ht:okTm t):VFn L 6 [.agg (tmC t)] (.bool (greatT t)):=by
 have k1:=great7_v hL (name:=t.name) (o:=t.cands) (seats:=t.seats) (rule:=t.rule) (by have:=ht.cands;omega)
 have k2:=long4_v hL (neg:=t.dneg) (a:=t.dnum) (b:=t.dden) (by have:=ht.dnum;omega) (by have:=ht.dden;omega)
 have k3:=long4_v hL (neg:=t.lneg) (a:=t.lnum) (b:=t.lden) (by have:=ht.lnum;omega) (by have:=ht.lden;omega)
 refine VFn.start (F:=T6.1) (by rw [hL];rfl) rfl (by simp [V.closeds,V.closed,closed_nlv,tmC]) rfl ?_
 unfold greatT tmC
 generalize great7 t.name t.cands.l=b1 at *
 generalize long4 t.dnum.l.length t.dden.l.length=b2 at *
 generalize long4 t.lnum.l.length t.lden.l.length=b3 at *
 cases b1 with
 | true=>
  refine Wn1 k1 ?_
  exact FnQ.ret rfl rfl
 | false=>
  cases b2 with
  | true=>
   refine Wn2 k1 k2 ?_
   exact FnQ.ret rfl rfl
  | false=>
   cases b3 with
   | true=>
    refine Wn3 k1 k2 k3 ?_
    exact FnQ.ret rfl rfl
   | false=>
    by_cases h:100 < t.rounds.l.length
    ·rw [decide_eq_true h]
     refine Wf3 (show (100:Int) < t.rounds.l.length by omega) k1 k2 k3 ?_
     exact FnQ.ret rfl rfl
    ·rw [decide_eq_false h]
     refine Wf3 (show ¬(100:Int) < t.rounds.l.length by omega) k1 k2 k3 ?_
     exact FnQ.ret rfl rfl
theorem great8_v {b:Int×Nl Int}:VFn L 63 [.agg [.int .u8 b.1,nlv mrow 1 b.2]] (.bool (great8 b)):=by
 refine VFn.start (F:=T63.1) (by rw [hL];rfl) rfl (by simp [V.closeds,V.closed,closed_nlv]) rfl ?_
 unfold great8
 by_cases h:60 < b.2.l.length
 ·rw [decide_eq_true h]
  refine Wf0 (show (60:Int) < b.2.l.length by omega) ?_
  exact FnQ.ret rfl rfl
 ·rw [decide_eq_false h]
  refine Wf0 (show ¬(60:Int) < b.2.l.length by omega) ?_
  exact FnQ.ret rfl rfl
end Go.Proofs.YtigdhgbkgfagiaaGreat
namespace Go.Proofs.YtigdhgbkgfagiaaGreat
def greatH (b:Hb):Bool:=decide (70 < b.bals.l.length)||(decide (1000 < b.name.length)||b.bals.l.any great8)
theorem great26_eq (l:List Hb):great26 l=(decide (20 < l.length)||l.any greatH):=rfl
variable {L:Lib} (hL:L.T=tab.get)
include hL
theorem great26_v {o:Nl Hb}:VFn L 25 [nlv hbrow 2 o] (.bool (great26 o.l)):=by
 refine VFn.start (F:=T25.1) (by rw [hL];rfl) rfl (by simp [V.closeds,closed_nlv]) rfl ?_
 rw [great26_eq]
 by_cases h1:20 < o.l.length
 ·rw [decide_eq_true h1]
  refine Wf0 (show (20:Int) < o.l.length by omega) ?_
  exact FnQ.ret rfl rfl
 ·rw [decide_eq_false h1,Bool.false_or]
  refine Wf0 (show ¬(20:Int) < o.l.length by omega) ?_
  refine wCnt rfl 3 o.l.length (fun _=>[]) (fun j=>(o.l.take j).any greatH=false) rfl (by simp) ?_ ?_
  ·intro j hj hI
   obtain ⟨x,hx,hm⟩:=get_of hj
   have hw:=wrap_succ (show j < 9223372036854775807 by omega)
   by_cases h2:70 < x.bals.l.length
   ·rw [any_at hm (show greatH x=true by unfold greatH;rw [decide_eq_true h2];rfl)]
    refine Wf0 (Q5 hj (iN hj) hx @hbrow_eq (show (70:Int) < x.bals.l.length by omega)) ?_
    exact FnQ.ret rfl rfl
   ·have h2':¬(70:Int) < x.bals.l.length:=by omega
    by_cases h3:1000 < x.name.length
    ·rw [any_at hm (show greatH x=true by unfold greatH;rw [decide_eq_true h3];simp)]
     refine Wf0 (Q5 hj (iN hj) hx @hbrow_eq (Q2 h2' (show (1000:Int) < x.name.length by omega))) ?_
     exact FnQ.ret rfl rfl
    ·have h3':¬(1000:Int) < x.name.length:=by omega
     refine Wf0 (Q5 hj (iN hj) hx @hbrow_eq (Q2 h2' h3')) ?_
     refine wCnt rfl 4 x.bals.l.length (fun _=>[]) (fun k=>(x.bals.l.take k).any great8=false) rfl (by simp) ?_ ?_
     ·intro k hk hK
      obtain ⟨y,hy,hn⟩:=get_of hk
      have kg:=great8_v hL (b:=y)
      have hw2:=wrap_succ (show k < 9223372036854775807 by omega)
      cases h4:great8 y with
      | true=>
       rw [any_at hm (show greatH x=true by unfold greatH;rw [any_at hn h4];simp)]
       rw [h4] at kg
       refine Wf1 (Q5 hj (iN hj) hx @hbrow_eq (Q4 hk (iN hk) hy @balrow_eq)) kg ?_
       exact FnQ.ret rfl rfl
      | false=>
       rw [h4] at kg
       refine Wf1 (Q5 hj (iN hj) hx @hbrow_eq (Q5 hk (iN hk) hy @balrow_eq hw2)) kg ?_
       refine qR_n rfl rfl ?_
       rw [take_snoc hy,List.any_append,hK]
       simp [h4]
     ·intro hK
      rw [List.take_of_length_le (Nat.le_refl _)] at hK
      refine Wf0 (Q5 hj (iN hj) hx @hbrow_eq hw) ?_
      refine qR_n rfl rfl ?_
      rw [take_snoc hx,List.any_append,hI]
      simp [greatH,h2,h3,hK]
  ·intro hI
   rw [List.take_of_length_le (Nat.le_refl _)] at hI
   rw [hI]
   refine Wn0 ?_
   exact FnQ.ret rfl rfl
end Go.Proofs.YtigdhgbkgfagiaaGreat
