/- Sizes of outcomes, by the reference, walked. · Sizes of elections, by the reference, walked. · Lists compared, by the program and by the reference, walked. -/
import Derived.Test.YtigdhgbkgfagiaaGreatVM1
import Derived.Test.YtigdhgbkgfagiaaGreatVE1
import Derived.Test.YtigdhgbkgfagiaaGreatVE2
set_option maxRecDepth 100000
set_option maxHeartbeats 4000000
set_option linter.unusedVariables false
set_option linter.unusedSimpArgs false
namespace Go.Proofs.YtigdhgbkgfagiaaGreat
def mn (x y:Int):Int:=if y < x then y else x
theorem mn_le (x y:Int):mn x y≤y:=by unfold mn;split <;> omega
theorem mn_ge {x y:Int} (hx:0≤x) (hy:0≤y):0≤mn x y:=by unfold mn;split <;> omega
def lenI {α:Type} (o:Nl α):Int:=o.l.length
theorem lenI_ge {α:Type} (o:Nl α):0≤lenI o:=Int.natCast_nonneg _
def gA (d:Dq) (n:Int):Int:=n+mn (lenI d.had) 300+mn (lenI d.el) 300+mn (lenI d.out) 300+mn (lenI d.lost.num) 300+mn (lenI d.lost.den) 300
def gB (r:Rq) (n:Int):Int:=n+mn (lenI r.num) 3000+mn (lenI r.den) 3000
def gH (l:List Rq) (n:Int):Int:=l.foldl (fun n r=>gB r n) n
def gR (l:List Dq) (n:Int):Int:=l.foldl (fun n d=>gH (d.had.l.take 300) (gA d n)) n
def gT (l:List Tq) (n:Int):Int:=l.foldl (fun n t=>n+mn (lenI t.among) 300) n
def greatO (o:Oq):Bool:=if 200 < lenI o.el+lenI o.rounds+lenI o.ties then true else decide (3000 < gT o.ties.l (gR o.rounds.l (lenI o.el+lenI o.rounds+lenI o.ties)))
theorem gA_b (d:Dq) {n:Int} (h:0≤n):0≤gA d n∧gA d n≤n+1500:=by
 have h1:=mn_ge (lenI_ge d.had) (show (0:Int)≤300 by omega)
 have h2:=mn_ge (lenI_ge d.el) (show (0:Int)≤300 by omega)
 have h3:=mn_ge (lenI_ge d.out) (show (0:Int)≤300 by omega)
 have h4:=mn_ge (lenI_ge d.lost.num) (show (0:Int)≤300 by omega)
 have h5:=mn_ge (lenI_ge d.lost.den) (show (0:Int)≤300 by omega)
 have k1:=mn_le (lenI d.had) 300
 have k2:=mn_le (lenI d.el) 300
 have k3:=mn_le (lenI d.out) 300
 have k4:=mn_le (lenI d.lost.num) 300
 have k5:=mn_le (lenI d.lost.den) 300
 unfold gA;omega
theorem gB_b (r:Rq) {n:Int} (h:0≤n):0≤gB r n∧gB r n≤n+6000:=by
 have h1:=mn_ge (lenI_ge r.num) (show (0:Int)≤3000 by omega)
 have h2:=mn_ge (lenI_ge r.den) (show (0:Int)≤3000 by omega)
 have k1:=mn_le (lenI r.num) 3000
 have k2:=mn_le (lenI r.den) 3000
 unfold gB;omega
theorem gH_b:∀(l:List Rq) {n:Int},0≤n→0≤gH l n∧gH l n≤n+6000*l.length
 | [],n,h=>⟨h,by simp [gH]⟩
 | r::l,n,h=>by
  have h1:=gB_b r h
  have h2:=gH_b l h1.1
  have e:gH (r::l) n=gH l (gB r n):=rfl
  rw [e]
  simp only [List.length_cons]
  omega
theorem gR_b:∀(l:List Dq) {n:Int},0≤n→0≤gR l n∧gR l n≤n+1801500*l.length
 | [],n,h=>⟨h,by simp [gR]⟩
 | d::l,n,h=>by
  have h1:=gA_b d h
  have h2:=gH_b (d.had.l.take 300) h1.1
  have h3:=gR_b l h2.1
  have e:gR (d::l) n=gR l (gH (d.had.l.take 300) (gA d n)):=rfl
  have h4:(d.had.l.take 300).length≤300:=by simp;omega
  rw [e]
  simp only [List.length_cons]
  omega
theorem gT_b:∀(l:List Tq) {n:Int},0≤n→0≤gT l n∧gT l n≤n+300*l.length
 | [],n,h=>⟨h,by simp [gT]⟩
 | t::l,n,h=>by
  have h1:=mn_ge (lenI_ge t.among) (show (0:Int)≤300 by omega)
  have k1:=mn_le (lenI t.among) 300
  have h3:=gT_b l (show 0≤n+mn (lenI t.among) 300 by omega)
  have e:gT (t::l) n=gT l (n+mn (lenI t.among) 300):=rfl
  rw [e]
  simp only [List.length_cons]
  omega
theorem gH_snoc {l:List Rq} {j:Nat} {x:Rq} {n:Int} (h:l[j]?=some x):gH (l.take (j+1)) n=gB x (gH (l.take j) n):=by rw [take_snoc h];simp [gH]
theorem gR_snoc {l:List Dq} {j:Nat} {x:Dq} {n:Int} (h:l[j]?=some x):gR (l.take (j+1)) n=gH (x.had.l.take 300) (gA x (gR (l.take j) n)):=by rw [take_snoc h];simp [gR]
theorem gT_snoc {l:List Tq} {j:Nat} {x:Tq} {n:Int} (h:l[j]?=some x):gT (l.take (j+1)) n=gT (l.take j) n+mn (lenI x.among) 300:=by rw [take_snoc h];simp [gT]
theorem mn_eq (x y:Int):(if y < x then y else x)=mn x y:=rfl
theorem lenI_eq {α:Type} (o:Nl α):((o.l.length:Nat):Int)=lenI o:=rfl
attribute [push_cast] rqrow_eq dqrow_eq tqrow_eq
theorem take_allq {α:Type} {l:List α}:l.take l.length=l:=List.take_of_length_le (Nat.le_refl _)
variable {L:Lib} (hL:L.T=tab.get)
include hL
theorem great22_v (o:Oq) (ho:okOq o):VFn L 7 [.agg (oqC o)] (.bool (greatO o)):=by
 refine VFn.start (F:=T7.1) (by rw [hL];rfl) rfl (by simp [V.closeds,V.closed,closed_nlv,oqC]) rfl ?_
 obtain ⟨b1,⟨b2,_⟩,b3,_⟩:=ho
 unfold okI8 at b1
 have p1:=lenI_ge o.el
 have p2:=lenI_ge o.rounds
 have p3:=lenI_ge o.ties
 have q1:lenI o.el≤140737488351232:=by unfold lenI;omega
 have q2:lenI o.rounds≤140737488351232:=by unfold lenI;omega
 have q3:lenI o.ties≤140737488351232:=by unfold lenI;omega
 have w1:IntKind.i64.wrap (lenI o.el+lenI o.rounds)=lenI o.el+lenI o.rounds:=wrap_i64 (by omega) (by omega)
 have w2:IntKind.i64.wrap (lenI o.el+lenI o.rounds+lenI o.ties)=lenI o.el+lenI o.rounds+lenI o.ties:=wrap_i64 (by omega) (by omega)
 by_cases hg:200 < lenI o.el+lenI o.rounds+lenI o.ties
 ·(repeat' (first|refine Z0 ?_|refine Z3 ?_|refine Z2 ?_|simp only [seval,push_cast,↓reduceIte,↓bP_some,↓aP_true,reduceCtorEq,oqC,lenI_eq,w1,w2,hg]))
  rw [show greatO o=true from if_pos hg]
  exact FnQ.ret rfl rfl
 ·(repeat' (first|refine Z0 ?_|refine Z3 ?_|refine Z2 ?_|simp only [seval,push_cast,↓reduceIte,↓bP_some,↓aP_true,reduceCtorEq,oqC,lenI_eq,w1,w2,hg]))
  generalize hS:lenI o.el+lenI o.rounds+lenI o.ties=S at hg
  refine wCnt rfl 4 o.rounds.l.length (fun j=>[(3,.int .i64 (gR (o.rounds.l.take j) S))]) (fun _=>True) rfl trivial ?_ ?_
  ·intro j hj _
   obtain ⟨d,hd,_⟩:=get_of hj
   have hS0:0≤S:=by omega
   have hn:=gR_b (o.rounds.l.take j) hS0
   have hlj:(o.rounds.l.take j).length≤200:=by
    have:lenI o.rounds≤200:=by omega
    unfold lenI at this
    rw [List.length_take];omega
   have hj2:j < 200:=by
    have:lenI o.rounds≤200:=by omega
    unfold lenI at this;omega
   have gs:=gR_snoc (n:=S) hd
   generalize gR (o.rounds.l.take j) S=n at hn gs ⊢
   have c1:=mn_ge (lenI_ge d.had) (show (0:Int)≤300 by omega)
   have c2:=mn_ge (lenI_ge d.el) (show (0:Int)≤300 by omega)
   have c3:=mn_ge (lenI_ge d.out) (show (0:Int)≤300 by omega)
   have c4:=mn_ge (lenI_ge d.lost.num) (show (0:Int)≤300 by omega)
   have c5:=mn_ge (lenI_ge d.lost.den) (show (0:Int)≤300 by omega)
   have k1:=mn_le (lenI d.had) 300
   have k2:=mn_le (lenI d.el) 300
   have k3:=mn_le (lenI d.out) 300
   have k4:=mn_le (lenI d.lost.num) 300
   have k5:=mn_le (lenI d.lost.den) 300
   have v1:IntKind.i64.wrap (n+mn (lenI d.had) 300)=n+mn (lenI d.had) 300:=wrap_i64 (by omega) (by omega)
   have v2:IntKind.i64.wrap (n+mn (lenI d.had) 300+mn (lenI d.el) 300)=n+mn (lenI d.had) 300+mn (lenI d.el) 300:=wrap_i64 (by omega) (by omega)
   have v3:IntKind.i64.wrap (n+mn (lenI d.had) 300+mn (lenI d.el) 300+mn (lenI d.out) 300)=n+mn (lenI d.had) 300+mn (lenI d.el) 300+mn (lenI d.out) 300:=wrap_i64 (by omega) (by omega)
   have v4:IntKind.i64.wrap (n+mn (lenI d.had) 300+mn (lenI d.el) 300+mn (lenI d.out) 300+mn (lenI d.lost.num) 300)=n+mn (lenI d.had) 300+mn (lenI d.el) 300+mn (lenI d.out) 300+mn (lenI d.lost.num) 300:=wrap_i64 (by omega) (by omega)
   have v5:IntKind.i64.wrap (n+mn (lenI d.had) 300+mn (lenI d.el) 300+mn (lenI d.out) 300+mn (lenI d.lost.num) 300+mn (lenI d.lost.den) 300)=gA d n:=wrap_i64 (by omega) (by omega)
   have hjI:(j:Int) < lenI o.rounds:=by unfold lenI;omega
   (repeat' (first|refine Z0 ?_|refine Z3 ?_|refine Z2 ?_|simp only [seval,push_cast,↓reduceIte,↓bP_some,↓aP_true,reduceCtorEq,iaQ_nlv hj,hd,hj,hjI,mn_eq,lenI_eq,v1,v2,v3,v4,v5]))
   have hA:=gA_b d hn.1
   generalize gA d n=m at hA gs ⊢
   have hN:min d.had.l.length 300≤d.had.l.length:=Nat.min_le_left _ _
   refine wCnt rfl 5 (min d.had.l.length 300) (fun k=>[(3,.int .i64 (gH (d.had.l.take k) m))]) (fun _=>True) rfl trivial ?_ ?_
   ·intro k hk _
    have hk1:k < d.had.l.length:=by omega
    have hk2:(k:Int) < 300:=by omega
    obtain ⟨r,hr,_⟩:=get_of hk1
    have hh:=gH_b (d.had.l.take k) hA.1
    have hl2:(d.had.l.take k).length≤300:=by rw [List.length_take];omega
    have g2:=gH_snoc (n:=m) hr
    generalize gH (d.had.l.take k) m=z at hh g2 ⊢
    have c1:=mn_ge (lenI_ge r.num) (show (0:Int)≤3000 by omega)
    have c2:=mn_ge (lenI_ge r.den) (show (0:Int)≤3000 by omega)
    have k1:=mn_le (lenI r.num) 3000
    have k2:=mn_le (lenI r.den) 3000
    have u1:IntKind.i64.wrap (z+mn (lenI r.num) 3000)=z+mn (lenI r.num) 3000:=wrap_i64 (by omega) (by omega)
    have u2:IntKind.i64.wrap (z+mn (lenI r.num) 3000+mn (lenI r.den) 3000)=gB r z:=wrap_i64 (by omega) (by omega)
    have hkI:(k:Int) < lenI d.had:=by unfold lenI;omega
    (repeat' (first|refine Z0 ?_|refine Z3 ?_|refine Z2 ?_|simp only [seval,push_cast,↓reduceIte,↓bP_some,↓aP_true,reduceCtorEq,iaQ_nlv hj,hd,hj,iaQ_nlv hk1,hr,hk1,hk2,hkI,mn_eq,lenI_eq,u1,u2,wrap_succ (show k < 9223372036854775807 by omega)]))
    exact qR_n (by rw [g2]) rfl trivial
   ·intro _
    have wj:=wrap_succ (show j < 9223372036854775807 by omega)
    by_cases hq:d.had.l.length≤300
    ·have e1:min d.had.l.length 300=d.had.l.length:=Nat.min_eq_left hq
     have e2:d.had.l.take 300=d.had.l.take d.had.l.length:=by rw [List.take_of_length_le hq,take_allq]
     rw [e1]
     rw [e2] at gs
     (repeat' (first|refine Z0 ?_|refine Z3 ?_|refine Z2 ?_|simp only [seval,push_cast,↓reduceIte,↓bP_some,↓aP_true,reduceCtorEq,iaQ_nlv hj,hd,hj,wj]))
     exact qR_n (by rw [gs]) rfl trivial
    ·have e1:min d.had.l.length 300=300:=Nat.min_eq_right (by omega)
     have h3:300 < d.had.l.length:=by omega
     have h4:¬(((300:Nat):Int) < 300):=by omega
     rw [e1]
     have h5:(300:Int) < (d.had.l.length:Int):=by omega
     have h6:¬((300:Int) < 300):=by omega
     (repeat' (first|refine Z0 ?_|refine Z3 ?_|refine Z2 ?_|simp only [seval,push_cast,↓reduceIte,↓bP_some,↓aP_true,reduceCtorEq,iaQ_nlv hj,hd,hj,h3,h4,h5,h6,wj]))
     exact qR_n (by rw [gs]) rfl trivial
  ·intro _
   rw [take_allq]
   have hS0:0≤S:=by omega
   have hn:=gR_b o.rounds.l hS0
   have hl1:(o.rounds.l.length:Int)≤200:=by
    have:lenI o.rounds≤200:=by omega
    exact this
   have hl2:(o.ties.l.length:Int)≤200:=by
    have:lenI o.ties≤200:=by omega
    exact this
   rw [show greatO o=decide (3000 < gT o.ties.l (gR o.rounds.l S)) by unfold greatO;rw [hS,if_neg hg]]
   generalize gR o.rounds.l S=m at hn ⊢
   (repeat' (first|refine Z0 ?_|refine Z3 ?_|refine Z2 ?_|simp only [seval,push_cast,↓reduceIte,↓bP_some,↓aP_true,reduceCtorEq]))
   refine wCnt rfl 6 o.ties.l.length (fun j=>[(3,.int .i64 (gT (o.ties.l.take j) m))]) (fun _=>True) rfl trivial ?_ ?_
   ·intro j hj _
    obtain ⟨t,ht,_⟩:=get_of hj
    have hh:=gT_b (o.ties.l.take j) hn.1
    have hl3:(o.ties.l.take j).length≤200:=by rw [List.length_take];omega
    have g2:=gT_snoc (n:=m) ht
    generalize gT (o.ties.l.take j) m=z at hh g2 ⊢
    have c1:=mn_ge (lenI_ge t.among) (show (0:Int)≤300 by omega)
    have k1:=mn_le (lenI t.among) 300
    have u1:IntKind.i64.wrap (z+mn (lenI t.among) 300)=z+mn (lenI t.among) 300:=wrap_i64 (by omega) (by omega)
    have hjI:(j:Int) < lenI o.ties:=by unfold lenI;omega
    (repeat' (first|refine Z0 ?_|refine Z3 ?_|refine Z2 ?_|simp only [seval,push_cast,↓reduceIte,↓bP_some,↓aP_true,reduceCtorEq,iaQ_nlv hj,ht,hj,hjI,mn_eq,lenI_eq,u1,wrap_succ (show j < 9223372036854775807 by omega)]))
    exact qR_n (by rw [g2]) rfl trivial
   ·intro _
    rw [take_allq]
    (repeat' (first|refine Z0 ?_|refine Z3 ?_|refine Z2 ?_|simp only [seval,push_cast,↓reduceIte,↓bP_some,↓aP_true,reduceCtorEq]))
    exact FnQ.ret rfl rfl
end Go.Proofs.YtigdhgbkgfagiaaGreat
namespace Go.Proofs.YtigdhgbkgfagiaaGreat
def great24 (o:Nl Vt):Bool:=decide (100 < o.l.length)||o.l.any fun v=>decide (1000 < v.name.length)
def bN (n:Nat):Bool:=decide (100 < n)&&decide (n≤1024)||decide (1100 < n)
def bD (n:Nat):Bool:=decide (1000 < n)&&decide (n≤8000)||decide (9000 < n)
def greatE (x:El):Bool:=greatT x.t||(great24 x.roll||(great26 x.recs.l||(decide (60 < x.lot.l.length)||(greatO x.o||(bN x.board.l.length||x.board.l.any fun e=>bD e.2.l.length)))))
theorem bN_case (n:Nat):bN n=true∧((100:Int) < n∧(n:Int)≤1024∨¬(100:Int) < n∧(1100:Int) < n∨(100:Int) < n∧¬(n:Int)≤1024∧(1100:Int) < n)∨bN n=false∧(¬(100:Int) < n∧¬(1100:Int) < n∨(100:Int) < n∧¬(n:Int)≤1024∧¬(1100:Int) < n):=by
 unfold bN
 by_cases h1:100 < n <;> by_cases h2:n≤1024 <;> by_cases h3:1100 < n <;> simp [h1,h2,h3] <;> omega
theorem bD_case (n:Nat):bD n=true∧((1000:Int) < n∧(n:Int)≤8000∨¬(1000:Int) < n∧(9000:Int) < n∨(1000:Int) < n∧¬(n:Int)≤8000∧(9000:Int) < n)∨bD n=false∧(¬(1000:Int) < n∧¬(9000:Int) < n∨(1000:Int) < n∧¬(n:Int)≤8000∧¬(9000:Int) < n):=by
 unfold bD
 by_cases h1:1000 < n <;> by_cases h2:n≤8000 <;> by_cases h3:9000 < n <;> simp [h1,h2,h3] <;> omega
variable {L:Lib} (hL:L.T=tab.get)
include hL
theorem great24_v {o:Nl Vt} (ho:o.l.length≤4398046510976):VFn L 24 [nlv vtrow 3 o] (.bool (great24 o)):=by
 refine VFn.start (F:=T24.1) (by rw [hL];rfl) rfl (by simp [V.closeds,closed_nlv]) rfl ?_
 unfold great24
 by_cases h1:100 < o.l.length
 ·rw [decide_eq_true h1]
  refine Wf0 (show (100:Int) < o.l.length by omega) ?_
  exact FnQ.ret rfl rfl
 ·rw [decide_eq_false h1,Bool.false_or]
  refine Wf0 (show ¬(100:Int) < o.l.length by omega) ?_
  refine wCnt rfl 3 o.l.length (fun _=>[]) (fun j=>((o.l.take j).any fun v=>decide (1000 < v.name.length))=false) rfl (by simp) ?_ ?_
  ·intro j hj hI
   obtain ⟨x,hx,hm⟩:=get_of hj
   have hw:=wrap_succ (show j < 9223372036854775807 by omega)
   by_cases h3:1000 < x.name.length
   ·rw [any_at hm (decide_eq_true h3)]
    refine Wf0 (Q5 hj (iN hj) hx @vtrow_eq (show (1000:Int) < x.name.length by omega)) ?_
    exact FnQ.ret rfl rfl
   ·refine Wf0 (Q5 hj (iN hj) hx @vtrow_eq (Q2 (show ¬(1000:Int) < x.name.length by omega) hw)) ?_
    refine qR_n rfl rfl ?_
    rw [take_snoc hx,List.any_append,hI]
    simp [h3]
  ·intro hI
   rw [take_allq] at hI
   rw [hI]
   refine Wn0 ?_
   exact FnQ.ret rfl rfl
theorem great43_v {x:El} (h:okEl x):VFn L 8 [.agg (elC x)] (.bool (greatE x)):=by
 have k1:=greatT_v hL h.t
 have k2:=great24_v hL h.roll
 have k3:=great26_v hL (o:=x.recs)
 have k4:=great22_v hL x.o h.o
 have hn:=h.board.1
 have hc:=closed_el x
 unfold oqC at k4
 unfold tmC at k1
 refine VFn.start (F:=T8.1) (by rw [hL];rfl) rfl (by rw [V.closeds,hc];rfl) rfl ?_
 clear h hc
 unfold greatE
 rw [elC_eq]
 generalize greatT x.t=b1 at *
 generalize great24 x.roll=b2 at *
 generalize great26 x.recs.l=b3 at *
 generalize greatO x.o=b4 at *
 cases b1 with
 | true=>refine Wn1 k1 ?_;exact FnQ.ret rfl rfl
 | false=>
 cases b2 with
 | true=>refine Wn2 k1 k2 ?_;exact FnQ.ret rfl rfl
 | false=>
 cases b3 with
 | true=>refine Wn3 k1 k2 k3 ?_;exact FnQ.ret rfl rfl
 | false=>
 by_cases h5:60 < x.lot.l.length
 ·rw [decide_eq_true h5]
  refine Wf3 (show (60:Int) < x.lot.l.length by omega) k1 k2 k3 ?_;exact FnQ.ret rfl rfl
 rw [decide_eq_false h5]
 have h5':¬(60:Int) < x.lot.l.length:=by omega
 cases b4 with
 | true=>refine Wf4 h5' k1 k2 k3 k4 ?_;exact FnQ.ret rfl rfl
 | false=>
 rcases bN_case x.board.l.length with ⟨e,g⟩|⟨e,g⟩
 ·rw [e]
  rcases g with ⟨g1,g2⟩|⟨g1,g2⟩|⟨g1,g2,g3⟩
  ·refine Wf4 (Q3 h5' g1 g2) k1 k2 k3 k4 ?_;exact FnQ.ret rfl rfl
  ·refine Wf4 (Q3 h5' g1 g2) k1 k2 k3 k4 ?_;exact FnQ.ret rfl rfl
  ·refine Wf4 (Q4 h5' g1 g2 g3) k1 k2 k3 k4 ?_;exact FnQ.ret rfl rfl
 ·rw [e]
  simp only [Bool.false_or]
  rcases g with ⟨g1,g2⟩|⟨g1,g2,g3⟩
  all_goals
   first|refine Wf4 (Q4 h5' g1 g2 g3) k1 k2 k3 k4 ?_|refine Wf4 (Q3 h5' g1 g2) k1 k2 k3 k4 ?_
   refine wCnt rfl 3 x.board.l.length (fun _=>[]) (fun j=>((x.board.l.take j).any fun e=>bD e.2.l.length)=false) rfl (by simp) ?_ ?_
   ·intro j hj hI
    obtain ⟨y,hy,hm⟩:=get_of hj
    have hw:=wrap_succ (show j < 9223372036854775807 by omega)
    rcases bD_case y.2.l.length with ⟨e,g⟩|⟨e,g⟩
    ·rw [show (x.board.l.any fun e=>bD e.2.l.length)=true from List.any_eq_true.2 ⟨y,hm,e⟩]
     rcases g with ⟨g1,g2⟩|⟨g1,g2⟩|⟨g1,g2,g3⟩
     ·refine Wf0 (Q5 hj (iN hj) hy @enrow_eq (Q2 g1 g2)) ?_;exact FnQ.ret rfl rfl
     ·refine Wf0 (Q5 hj (iN hj) hy @enrow_eq (Q2 g1 g2)) ?_;exact FnQ.ret rfl rfl
     ·refine Wf0 (Q5 hj (iN hj) hy @enrow_eq (Q3 g1 g2 g3)) ?_;exact FnQ.ret rfl rfl
    ·have hz:((x.board.l.take (j+1)).any fun e=>bD e.2.l.length)=false:=by
       rw [take_snoc hy,List.any_append,hI]
       simp [e]
     rcases g with ⟨g1,g2⟩|⟨g1,g2,g3⟩
     ·refine Wf0 (Q5 hj (iN hj) hy @enrow_eq (Q3 hw g1 g2)) ?_;exact qR_n rfl rfl hz
     ·refine Wf0 (Q5 hj (iN hj) hy @enrow_eq (Q4 hw g1 g2 g3)) ?_;exact qR_n rfl rfl hz
   ·intro hI
    rw [take_allq] at hI
    rw [hI]
    refine Wn0 ?_
    exact FnQ.ret rfl rfl
end Go.Proofs.YtigdhgbkgfagiaaGreat
namespace Go.Proofs.YtigdhgbkgfagiaaGreat
theorem list_neq {α β:Type} {e:α→β} {a b:List α} {i:Nat} {x y:α} (ha:a[i]?=some x) (hb:b[i]?=some y) (h:e x≠e y):¬a.map e=b.map e:=fun he=>by
 have:=congrArg (fun l=>l[i]?) he
 simp only [List.getElem?_map,ha,hb,Option.map_some,Option.some.injEq] at this
 exact h this
theorem map_snoc {α β:Type} {e:α→β} {a b:List α} {j:Nat} {x y:α} (hx:a[j]?=some x) (hy:b[j]?=some y) (hI:(a.take j).map e=(b.take j).map e) (h:e x=e y):(a.take (j+1)).map e=(b.take (j+1)).map e:=by
 rw [take_snoc hx,take_snoc hy,List.map_append,List.map_append,hI,List.map_singleton,List.map_singleton,h]
theorem s_eql {x y:List UInt8}:binV .eql (.str x) (.str y)=some (.bool (decide (x=y))):=by by_cases h:x=y <;> simp [binV,binStr,h]
theorem s_neq {x y:List UInt8}:binV .neq (.str x) (.str y)=some (.bool (!decide (x=y))):=by by_cases h:x=y <;> simp [binV,binStr,h]
def vtSh:Shp:=.fld 0 1 true (.leaf 1) (.fld 1 1 true (.leaf 0) (.fld 2 1 true (.leaf 0) .nil))
theorem vt_cmp (x y:Vt):acmpQ vtSh true (.agg [.str x.name,.int .i64 x.prec,.int .u8 x.state]) (.agg [.str y.name,.int .i64 y.prec,.int .u8 y.state])=some (.bool (!decide (x=y))):=by
 obtain ⟨a,b,c⟩:=x
 obtain ⟨d,e,f⟩:=y
 have h0:(⟨a,b,c⟩:Vt)=⟨d,e,f⟩↔a=d∧b=e∧c=f:=by simp
 simp only [h0]
 by_cases h1:a=d <;> by_cases h2:b=e <;> by_cases h3:c=f <;> simp [acmpQ,vtSh,eqS,takeCells,sameK0,h1,h2,h3]
variable {L:Lib} (hL:L.T=tab.get)
include hL
theorem ints_v0 {a b:Nl Int} (ha:a.l.length < 4611686018427387904) (hb:b.l.length < 4611686018427387904):VFn L 47 [nlv mrow 1 a,nlv mrow 1 b] (.bool (decide (a.l.map id=b.l.map id))):=by
 refine VFn.start (F:=T47.1) (by rw [hL];rfl) rfl (by simp [V.closeds,V.closed,closed_nlv]) rfl ?_
 by_cases hlen:a.l.length=b.l.length
 ·refine Wf0 hlen ?_
  refine wCnt rfl 5 a.l.length (fun _=>[]) (fun j=>(a.l.take j).map id=(b.l.take j).map id) rfl rfl ?_ ?_
  ·intro j hj hI
   obtain ⟨x,hx,kx⟩:=get_of hj
   have hjb:j < b.l.length:=by omega
   obtain ⟨y,hy,ky⟩:=get_of hjb
   have hw:=wrap_succ (show j < 9223372036854775807 by omega)
   by_cases e:id x=id y
   ·have hz:=map_snoc (e:=id) hx hy hI e
    obtain rfl:x=y:=e
    refine Wf0 (Q5 hj hjb (iN hj) (iN hjb) (Q3 hx hy hw)) ?_
    exact qR_n rfl rfl hz
   ·rw [decide_eq_false (list_neq (e:=id) hx hy e)]
    refine Wf0 (Q5 hj hjb (iN hj) (iN hjb) (Q4 hx hy hw (ne_both (show x≠y from e)))) ?_
    exact FnQ.ret rfl rfl
  ·intro hI
   refine Wf0 hlen ?_
   rw [decide_eq_true (show a.l.map id=b.l.map id by rwa [take_allq,hlen,take_allq] at hI)]
   exact FnQ.ret rfl rfl
 ·refine Wf0 hlen ?_
  rw [decide_eq_false fun h=>hlen (by simpa using congrArg List.length h)]
  exact FnQ.ret rfl rfl
theorem ints_v {a b:Nl Int} (ha:a.l.length < 4611686018427387904) (hb:b.l.length < 4611686018427387904):VFn L 47 [nlv mrow 1 a,nlv mrow 1 b] (.bool (decide (a.l=b.l))):=by
 have:=ints_v0 hL ha hb
 simpa only [List.map_id] using this
theorem eqi_v0 {a b:Nl Int} (ha:a.l.length < 4611686018427387904) (hb:b.l.length < 4611686018427387904):VFn L 53 [nlv mrow 1 a,nlv mrow 1 b] (.bool (decide (a.l.map id=b.l.map id))):=by
 refine VFn.start (F:=T53.1) (by rw [hL];rfl) rfl (by simp [V.closeds,V.closed,closed_nlv]) rfl ?_
 by_cases hlen:a.l.length=b.l.length
 ·refine Wf0 hlen ?_
  refine wCnt rfl 13 a.l.length (fun _=>[]) (fun j=>(a.l.take j).map id=(b.l.take j).map id) rfl rfl ?_ ?_
  ·intro j hj hI
   obtain ⟨x,hx,kx⟩:=get_of hj
   have hjb:j < b.l.length:=by omega
   obtain ⟨y,hy,ky⟩:=get_of hjb
   have hw:=wrap_succ (show j < 9223372036854775807 by omega)
   by_cases e:id x=id y
   ·have hz:=map_snoc (e:=id) hx hy hI e
    obtain rfl:x=y:=e
    refine Wf0 (Q5 hj hjb (iN hj) (iN hjb) (Q3 hx hy hw)) ?_
    exact qR_n rfl rfl hz
   ·rw [decide_eq_false (list_neq (e:=id) hx hy e)]
    refine Wf0 (Q5 hj hjb (iN hj) (iN hjb) (Q4 hx hy hw (ne_both (show x≠y from e)))) ?_
    exact FnQ.ret rfl rfl
  ·intro hI
   refine Wf0 hlen ?_
   rw [decide_eq_true (show a.l.map id=b.l.map id by rwa [take_allq,hlen,take_allq] at hI)]
   exact FnQ.ret rfl rfl
 ·refine Wf0 hlen ?_
  rw [decide_eq_false fun h=>hlen (by simpa using congrArg List.length h)]
  exact FnQ.ret rfl rfl
theorem eqi_v {a b:Nl Int} (ha:a.l.length < 4611686018427387904) (hb:b.l.length < 4611686018427387904):VFn L 53 [nlv mrow 1 a,nlv mrow 1 b] (.bool (decide (a.l=b.l))):=by
 have:=eqi_v0 hL ha hb
 simpa only [List.map_id] using this
theorem r03s_v0 {a b:Nl Nat} (ha:a.l.length < 4611686018427387904) (hb:b.l.length < 4611686018427387904):VFn L 142 [nlv nrow 1 a,nlv nrow 1 b] (.bool (decide (a.l.map id=b.l.map id))):=by
 refine VFn.start (F:=T142.1) (by rw [hL];rfl) rfl (by simp [V.closeds,V.closed,closed_nlv]) rfl ?_
 by_cases hlen:a.l.length=b.l.length
 ·refine Wf0 hlen ?_
  refine wCnt rfl 5 a.l.length (fun _=>[]) (fun j=>(a.l.take j).map id=(b.l.take j).map id) rfl rfl ?_ ?_
  ·intro j hj hI
   obtain ⟨x,hx,kx⟩:=get_of hj
   have hjb:j < b.l.length:=by omega
   obtain ⟨y,hy,ky⟩:=get_of hjb
   have hw:=wrap_succ (show j < 9223372036854775807 by omega)
   by_cases e:id x=id y
   ·have hz:=map_snoc (e:=id) hx hy hI e
    obtain rfl:x=y:=e
    refine Wf0 (Q5 hj hjb (iN hj) (iN hjb) (Q4 hx hy hw @nrow_eq)) ?_
    exact qR_n rfl rfl hz
   ·rw [decide_eq_false (list_neq (e:=id) hx hy e)]
    have e1:(x:Int)≠y:=fun h=>e (show x=y by omega)
    refine Wf0 (Q5 hj hjb (iN hj) (iN hjb) (Q5 hx hy hw @nrow_eq (ne_both e1))) ?_
    exact FnQ.ret rfl rfl
  ·intro hI
   refine Wf0 hlen ?_
   rw [decide_eq_true (show a.l.map id=b.l.map id by rwa [take_allq,hlen,take_allq] at hI)]
   exact FnQ.ret rfl rfl
 ·refine Wf0 hlen ?_
  rw [decide_eq_false fun h=>hlen (by simpa using congrArg List.length h)]
  exact FnQ.ret rfl rfl
theorem r03s_v {a b:Nl Nat} (ha:a.l.length < 4611686018427387904) (hb:b.l.length < 4611686018427387904):VFn L 142 [nlv nrow 1 a,nlv nrow 1 b] (.bool (decide (a.l=b.l))):=by
 have:=r03s_v0 hL ha hb
 simpa only [List.map_id] using this
theorem eqn_v0 {a b:Nl Nat} (ha:a.l.length < 4611686018427387904) (hb:b.l.length < 4611686018427387904):VFn L 170 [nlv nrow 1 a,nlv nrow 1 b] (.bool (decide (a.l.map id=b.l.map id))):=by
 refine VFn.start (F:=T170.1) (by rw [hL];rfl) rfl (by simp [V.closeds,V.closed,closed_nlv]) rfl ?_
 by_cases hlen:a.l.length=b.l.length
 ·refine Wf0 hlen ?_
  refine wCnt rfl 13 a.l.length (fun _=>[]) (fun j=>(a.l.take j).map id=(b.l.take j).map id) rfl rfl ?_ ?_
  ·intro j hj hI
   obtain ⟨x,hx,kx⟩:=get_of hj
   have hjb:j < b.l.length:=by omega
   obtain ⟨y,hy,ky⟩:=get_of hjb
   have hw:=wrap_succ (show j < 9223372036854775807 by omega)
   by_cases e:id x=id y
   ·have hz:=map_snoc (e:=id) hx hy hI e
    obtain rfl:x=y:=e
    refine Wf0 (Q5 hj hjb (iN hj) (iN hjb) (Q4 hx hy hw @nrow_eq)) ?_
    exact qR_n rfl rfl hz
   ·rw [decide_eq_false (list_neq (e:=id) hx hy e)]
    have e1:(x:Int)≠y:=fun h=>e (show x=y by omega)
    refine Wf0 (Q5 hj hjb (iN hj) (iN hjb) (Q5 hx hy hw @nrow_eq (ne_both e1))) ?_
    exact FnQ.ret rfl rfl
  ·intro hI
   refine Wf0 hlen ?_
   rw [decide_eq_true (show a.l.map id=b.l.map id by rwa [take_allq,hlen,take_allq] at hI)]
   exact FnQ.ret rfl rfl
 ·refine Wf0 hlen ?_
  rw [decide_eq_false fun h=>hlen (by simpa using congrArg List.length h)]
  exact FnQ.ret rfl rfl
theorem eqn_v {a b:Nl Nat} (ha:a.l.length < 4611686018427387904) (hb:b.l.length < 4611686018427387904):VFn L 170 [nlv nrow 1 a,nlv nrow 1 b] (.bool (decide (a.l=b.l))):=by
 have:=eqn_v0 hL ha hb
 simpa only [List.map_id] using this
theorem eqs_v0 {a b:Nl (List UInt8)} (ha:a.l.length < 4611686018427387904) (hb:b.l.length < 4611686018427387904):VFn L 144 [nlv srow 1 a,nlv srow 1 b] (.bool (decide (a.l.map id=b.l.map id))):=by
 refine VFn.start (F:=T144.1) (by rw [hL];rfl) rfl (by simp [V.closeds,V.closed,closed_nlv]) rfl ?_
 by_cases hlen:a.l.length=b.l.length
 ·refine Wf0 hlen ?_
  refine wCnt rfl 13 a.l.length (fun _=>[]) (fun j=>(a.l.take j).map id=(b.l.take j).map id) rfl rfl ?_ ?_
  ·intro j hj hI
   obtain ⟨x,hx,kx⟩:=get_of hj
   have hjb:j < b.l.length:=by omega
   obtain ⟨y,hy,ky⟩:=get_of hjb
   have hw:=wrap_succ (show j < 9223372036854775807 by omega)
   by_cases e:id x=id y
   ·have hz:=map_snoc (e:=id) hx hy hI e
    have e1:=s_neq (x:=x) (y:=y)
    rw [decide_eq_true (show x=y from e)] at e1
    refine Wf0 (Q5 hj hjb (iN hj) (iN hjb) (Q5 hx hy hw @srow_eq e1)) ?_
    exact qR_n rfl rfl hz
   ·rw [decide_eq_false (list_neq (e:=id) hx hy e)]
    have e1:=s_neq (x:=x) (y:=y)
    rw [decide_eq_false (show ¬x=y from e)] at e1
    refine Wf0 (Q5 hj hjb (iN hj) (iN hjb) (Q5 hx hy hw @srow_eq e1)) ?_
    exact FnQ.ret rfl rfl
  ·intro hI
   refine Wf0 hlen ?_
   rw [decide_eq_true (show a.l.map id=b.l.map id by rwa [take_allq,hlen,take_allq] at hI)]
   exact FnQ.ret rfl rfl
 ·refine Wf0 hlen ?_
  rw [decide_eq_false fun h=>hlen (by simpa using congrArg List.length h)]
  exact FnQ.ret rfl rfl
theorem eqs_v {a b:Nl (List UInt8)} (ha:a.l.length < 4611686018427387904) (hb:b.l.length < 4611686018427387904):VFn L 144 [nlv srow 1 a,nlv srow 1 b] (.bool (decide (a.l=b.l))):=by
 have:=eqs_v0 hL ha hb
 simpa only [List.map_id] using this
theorem r24s_v0 {a b:Nl Vt} (ha:a.l.length < 4611686018427387904) (hb:b.l.length < 4611686018427387904):VFn L 45 [nlv vtrow 3 a,nlv vtrow 3 b] (.bool (decide (a.l.map id=b.l.map id))):=by
 refine VFn.start (F:=T45.1) (by rw [hL];rfl) rfl (by simp [V.closeds,V.closed,closed_nlv]) rfl ?_
 by_cases hlen:a.l.length=b.l.length
 ·refine Wf0 hlen ?_
  refine wCnt rfl 5 a.l.length (fun _=>[]) (fun j=>(a.l.take j).map id=(b.l.take j).map id) rfl rfl ?_ ?_
  ·intro j hj hI
   obtain ⟨x,hx,kx⟩:=get_of hj
   have hjb:j < b.l.length:=by omega
   obtain ⟨y,hy,ky⟩:=get_of hjb
   have hw:=wrap_succ (show j < 9223372036854775807 by omega)
   by_cases e:id x=id y
   ·have hz:=map_snoc (e:=id) hx hy hI e
    have e1:=vt_cmp x y
    rw [decide_eq_true (show x=y from e)] at e1
    unfold vtSh at e1
    refine Wf0 (Q5 hj hjb (iN hj) (iN hjb) (Q5 hx hy hw @vtrow_eq e1)) ?_
    exact qR_n rfl rfl hz
   ·rw [decide_eq_false (list_neq (e:=id) hx hy e)]
    have e1:=vt_cmp x y
    rw [decide_eq_false (show ¬x=y from e)] at e1
    unfold vtSh at e1
    refine Wf0 (Q5 hj hjb (iN hj) (iN hjb) (Q5 hx hy hw @vtrow_eq e1)) ?_
    exact FnQ.ret rfl rfl
  ·intro hI
   refine Wf0 hlen ?_
   rw [decide_eq_true (show a.l.map id=b.l.map id by rwa [take_allq,hlen,take_allq] at hI)]
   exact FnQ.ret rfl rfl
 ·refine Wf0 hlen ?_
  rw [decide_eq_false fun h=>hlen (by simpa using congrArg List.length h)]
  exact FnQ.ret rfl rfl
theorem r24s_v {a b:Nl Vt} (ha:a.l.length < 4611686018427387904) (hb:b.l.length < 4611686018427387904):VFn L 45 [nlv vtrow 3 a,nlv vtrow 3 b] (.bool (vtS a b)):=by
 have:=r24s_v0 hL ha hb
 unfold vtS
 simpa only [List.map_id] using this
theorem eqvt_v0 {a b:Nl Vt} (ha:a.l.length < 4611686018427387904) (hb:b.l.length < 4611686018427387904):VFn L 51 [nlv vtrow 3 a,nlv vtrow 3 b] (.bool (decide (a.l.map id=b.l.map id))):=by
 refine VFn.start (F:=T51.1) (by rw [hL];rfl) rfl (by simp [V.closeds,V.closed,closed_nlv]) rfl ?_
 by_cases hlen:a.l.length=b.l.length
 ·refine Wf0 hlen ?_
  refine wCnt rfl 13 a.l.length (fun _=>[]) (fun j=>(a.l.take j).map id=(b.l.take j).map id) rfl rfl ?_ ?_
  ·intro j hj hI
   obtain ⟨x,hx,kx⟩:=get_of hj
   have hjb:j < b.l.length:=by omega
   obtain ⟨y,hy,ky⟩:=get_of hjb
   have hw:=wrap_succ (show j < 9223372036854775807 by omega)
   by_cases e:id x=id y
   ·have hz:=map_snoc (e:=id) hx hy hI e
    have e1:=vt_cmp x y
    rw [decide_eq_true (show x=y from e)] at e1
    unfold vtSh at e1
    refine Wf0 (Q5 hj hjb (iN hj) (iN hjb) (Q5 hx hy hw @vtrow_eq e1)) ?_
    exact qR_n rfl rfl hz
   ·rw [decide_eq_false (list_neq (e:=id) hx hy e)]
    have e1:=vt_cmp x y
    rw [decide_eq_false (show ¬x=y from e)] at e1
    unfold vtSh at e1
    refine Wf0 (Q5 hj hjb (iN hj) (iN hjb) (Q5 hx hy hw @vtrow_eq e1)) ?_
    exact FnQ.ret rfl rfl
  ·intro hI
   refine Wf0 hlen ?_
   rw [decide_eq_true (show a.l.map id=b.l.map id by rwa [take_allq,hlen,take_allq] at hI)]
   exact FnQ.ret rfl rfl
 ·refine Wf0 hlen ?_
  rw [decide_eq_false fun h=>hlen (by simpa using congrArg List.length h)]
  exact FnQ.ret rfl rfl
theorem eqvt_v {a b:Nl Vt} (ha:a.l.length < 4611686018427387904) (hb:b.l.length < 4611686018427387904):VFn L 51 [nlv vtrow 3 a,nlv vtrow 3 b] (.bool (vtS a b)):=by
 have:=eqvt_v0 hL ha hb
 unfold vtS
 simpa only [List.map_id] using this
end Go.Proofs.YtigdhgbkgfagiaaGreat
