/- Contests: the rules, names, Check, by the program, walked. -/
import Derived.Test.YtigdhgbkgfagiaaGreatVM1
import Derived.Test.YtigdhgbkgfagiaaGreatVM2
import Derived.Test.YtigdhgbkgfagiaaGreatVN5
import Derived.Test.YtigdhgbkgfagiaaGreatVQ2
import Derived.Test.YtigdhgbkgfagiaaGreatVA3
import Derived.Test.YtigdhgbkgfagiaaGreatVN4
set_option maxRecDepth 100000
set_option maxHeartbeats 4000000
set_option linter.unusedVariables false
set_option linter.unusedSimpArgs false
namespace Go.Proofs.YtigdhgbkgfagiaaGreat
structure IsG {α:Type} (g:α→V) (H:Heap) (v:V) (l:List α):Prop where
 len:lenQ v=some (.int .i64 l.length)
 at':∀i x,l[i]?=some x→∃p,iaQ 1 v i=some p∧loadQ H.get 1 true p=some (g x)
def rowG {α:Type} (g:α→V) (x:α):List V:=[g x]
theorem IsG.tl {α:Type} {g:α→V} {H:Heap} {s:Nat} {l:List α} {c:Option Nat} (hg:∀x,(g x).one=true) (hs:s=1∨l=[]):IsG g H (tl (rowG g) s l c) l:=
 ⟨lenQ_tl,fun i x hx=>by
  have hi:=(List.getElem?_eq_some_iff.1 hx).1
  obtain rfl:=size_of hs hi
  refine ⟨_,iaQ_tl hi,?_⟩
  rw [loadQ_iptr,row_tl,hx];rfl⟩
theorem IsG.ref {α:Type} {g:α→V} {H:Heap} {a:Nat} {l:List α} {c:Option Nat} (ha:H.get a=some (.arr 1 (l.map (rowG g)))):IsG g H (.ref a 1 0 l.length c) l:=
 ⟨rfl,fun i x hx=>by
  have hi:=(List.getElem?_eq_some_iff.1 hx).1
  refine ⟨.ptr a 1 i 0,?_,?_⟩
  ·unfold iaQ
   simp [hi]
  ·rw [loadQ_ptr,ha]
   unfold loadB
   rw [Option.map_some,shape_same]
   show (if 1=1 then ((l.map (rowG g))[i]?).bind _ else none)=_
   rw [if_pos rfl,List.getElem?_map,hx]
   rfl⟩
def findG {α:Type} (p:α→Bool) (l:List α) (j:Nat):Int:=match l with|[]=>-1|x::r=>if p x then (j:Int) else findG p r (j+1)
theorem findG_any {α:Type} {p:α→Bool}:∀(l:List α) (j:Nat),decide (0≤findG p l j)=l.any p
 | [],j=>rfl
 | x::r,j=>by
  unfold findG
  rw [List.any_cons]
  cases h:p x with
  | true=>rw [if_pos rfl,Bool.true_or];simp
  | false=>rw [if_neg (by simp),Bool.false_or];exact findG_any r (j+1)
theorem drop_atG {α:Type} {l:List α} {j:Nat} {x:α} (h:l[j]?=some x):l.drop j=x::l.drop (j+1):=by
 obtain ⟨h1,rfl⟩:=List.getElem?_eq_some_iff.1 h
 exact List.drop_eq_getElem_cons h1
def srow (s:List UInt8):List V:=[.str s]
theorem srow_eq (s:List UInt8):srow s=[.str s]:=rfl
theorem seqV {a b:List UInt8}:binV .eql (.str a) (.str b)=some (.bool (a == b)):=rfl
theorem closed_srow (s:List UInt8):(srow s).all V.closed=true:=rfl
def byrow (b:UInt8):List V:=[.int .u8 b.toNat]
theorem byrow_eq (b:UInt8):byrow b=[.int .u8 (b.toNat:Int)]:=rfl
theorem closed_byrow (b:UInt8):(byrow b).all V.closed=true:=rfl
def badB (b:UInt8):Bool:=decide (b.toNat < 33∨126 < b.toNat)
def oddS (s:List UInt8):Bool:=decide (s=[]∨40 < s.length)||s.any badB
def twiceL:List (List UInt8)→Nat→Nat→Bool
 | l,j,n+1=>(match l[j]? with|some x=>(l.take j).contains x|none=>false)||twiceL l (j+1) n
 | _,_,0=>false
def ruleT:List (List UInt8×Int×Int×Bool):=[([],0,0,false),([112,108,117,114,97,108,105,116,121],2,2,true),([97,112,112,114,111,118,97,108],2,2,false),([115,99,111,114,101],3,2,false),([98,111,114,100,97],1,2,false),([99,111,112,101,108,97,110,100],1,1,false),([109,105,110,105,109,97,120],1,1,false),([115,99,104,117,108,122,101],1,1,false),([112,97,105,114,115],1,1,false),([114,117,110,111,102,102],1,1,false),([99,111,111,109,98,115],1,1,false),([103,114,101,103,111,114,121],1,2,false),([109,101,101,107],1,2,false),([112,104,114,97,103,109,101,110],2,2,false),([100,104,111,110,100,116],2,3,true),([115,97,105,110,116,101],2,3,true),([104,97,114,101],2,3,true)]
def ruleR (n:Nat):List UInt8×Int×Int×Bool:=ruleT[n]?.getD ([],0,0,false)
def kindR (n:Nat):Int:=(ruleR n).2.1
def seatsR (n:Nat):Int:=(ruleR n).2.2.1
def aloneR (n:Nat):Bool:=(ruleR n).2.2.2
def ruleW (n:Nat):V:=.agg [.str (ruleR n).1,.int .u8 (kindR n),.int .i64 (seatsR n),.bool (aloneR n)]
structure Ct where
 name:List UInt8
 cands:List (List UInt8)
 seats:Int
 rule:Nat
def ctC (c:Ct) (s:Nat) (k:Option Nat):List V:=[.str c.name,tl srow s c.cands k,.int .i64 c.seats,.int .u8 c.rule]
def fitsC (c:Ct):Bool:=decide (1≤c.seats∧c.seats≤10)&&(if seatsR c.rule=1 then decide (c.seats=1) else if seatsR c.rule=2 then decide (c.seats≤c.cands.length) else decide (seatsR c.rule=3))
def okCt (c:Ct):Bool:=!decide (c.cands=[])&&(!oddS c.name&&(!c.cands.any oddS&&(!twiceL c.cands 0 c.cands.length&&fitsC c)))
def checkC (c:Ct):Int:=if 10 < c.cands.length then 4 else if okCt c then 0 else 8
def rulesC:List V:=(List.range 17).flatMap fun n=>(ruleW n).cells
theorem rulesC_len:rulesC.length=68:=rfl
theorem rule_hi {n:Nat} (h:17≤n):ruleR n=([],0,0,false):=by
 unfold ruleR
 rw [List.getElem?_eq_none (show ruleT.length≤n from h)];rfl
variable {L:Lib} (hL:L.T=tab.get)
include hL
theorem rules_v:VFn L 188 [] (.agg rulesC):=by
 refine VFn.start (F:=T188.1) (by rw [hL];rfl) rfl rfl rfl ?_
 refine Wn0 ?_
 exact FnQ.ret rfl rfl
omit hL in
theorem rules_at {n:Nat} (h:n < 17):List.take 4 (List.drop (n*4) rulesC)=[.str (ruleR n).1,.int .u8 (kindR n),.int .i64 (seatsR n),.bool (aloneR n)]:=by
 have h':n=0∨n=1∨n=2∨n=3∨n=4∨n=5∨n=6∨n=7∨n=8∨n=9∨n=10∨n=11∨n=12∨n=13∨n=14∨n=15∨n=16:=by omega
 rcases h' with rfl|rfl|rfl|rfl|rfl|rfl|rfl|rfl|rfl|rfl|rfl|rfl|rfl|rfl|rfl|rfl|rfl <;> rfl
theorem of_v {n:Nat} (hn:n < 256):VFn L 156 [.int .u8 n] (ruleW n):=by
 have kr:=rules_v hL
 have h2:IntKind.i64.wrap (n:Int)=n:=wrap_nat (by omega)
 by_cases h:n < 17
 ·have h1:(n:Int) < 17:=by omega
  have h3:=rules_at h
  refine VFn.start (F:=T156.1) (by rw [hL];rfl) rfl rfl rfl ?_
  refine Wf1 (Q5 h h1 h2 h3 @rulesC_len) kr ?_
  exact FnQ.ret rfl rfl
 ·rw [show ruleW n=.agg [.str [],.int .u8 0,.int .i64 0,.bool false] by unfold ruleW kindR seatsR aloneR;rw [rule_hi (by omega)]]
  have h1:¬(n:Int) < 17:=by omega
  refine VFn.start (F:=T156.1) (by rw [hL];rfl) rfl rfl rfl ?_
  refine Wf1 (Q3 h1 h2 @rulesC_len) kr ?_
  exact FnQ.ret rfl rfl
theorem indexFuncG_a {α:Type} {g:α→V} {k:Nat} (hk:tab.get k=some T185.1) {H:Heap} {v:V} {l:List α} {kf:Nat} {fs cs:List V} {p:α→Bool} (hv:IsG g H v l) (hl:l.length < 4611686018427387904) (hf:∀x∈l,AFn L (.fn kf) (fs++[g x]++cs) H (fun r H'=>r=.bool (p x)∧H'=H)):AFn L (.fn k) [v,.fn kf fs cs] H (fun r H'=>r=.int .i64 (findG p l 0)∧H'=H):=by
 refine AFn.of_body (F:=T185.1) (by rw [hL];exact hk) rfl ?_
 refine Wf0 hv.len ?_
 refine wCnt rfl 8 l.length (fun _=>[]) (fun j=>findG p l 0=findG p (l.drop j) j) rfl rfl ?_ ?_
 ·intro j hj hI
  obtain ⟨x,hx,hm⟩:=get_of hj
  obtain ⟨q,hq1,hq2⟩:=hv.at' j x hx
  have hd:=drop_atG hx
  refine Wf0 (Q3 hj hq1 hq2) ?_
  refine opsP_all (k:=kf) (vs:=fs++[g x]++cs) rfl (hf x hm) ?_
  rintro r h' ⟨rfl,rfl⟩
  cases hp:p x with
  | true=>
   refine Wn0 ?_
   rw [show findG p l 0=(j:Int) by rw [hI,hd];exact if_pos hp]
   exact FnQ.at rfl ⟨rfl,rfl⟩
  | false=>
   refine Wf0 (wrap_succ (show j < 9223372036854775807 by omega)) ?_
   refine qR_n rfl rfl ?_
   rw [hI,hd]
   exact if_neg (by rw [hp];simp)
 ·intro hI
  refine Wn0 ?_
  rw [show findG p l 0=-1 by rw [hI,List.drop_eq_nil_of_le (Nat.le_refl _)];rfl]
  exact FnQ.at rfl ⟨rfl,rfl⟩
theorem containsS_a {H:Heap} {v:V} {l:List (List UInt8)} {kf:Nat} {fs cs:List V} {p:List UInt8→Bool} (hv:IsG V.str H v l) (hl:l.length < 4611686018427387904) (hf:∀x∈l,AFn L (.fn kf) (fs++[.str x]++cs) H (fun r H'=>r=.bool (p x)∧H'=H)):AFn L (.fn 151) [v,.fn kf fs cs] H (fun r H'=>r=.bool (l.any p)∧H'=H):=by
 refine AFn.of_body (F:=T151.1) (by rw [hL];rfl) rfl ?_
 refine Wn0 ?_
 refine opsP_all rfl (indexFuncG_a hL (k:=185) rfl hv hl hf) ?_
 rintro r h' ⟨rfl,rfl⟩
 rw [←findG_any l 0]
 refine Wn0 ?_
 exact FnQ.at rfl ⟨rfl,rfl⟩
theorem containsB_a {H:Heap} {v:V} {l:List UInt8} {kf:Nat} {fs cs:List V} {p:UInt8→Bool} (hv:IsG (fun b=>V.int .u8 (b.toNat:Int)) H v l) (hl:l.length < 4611686018427387904) (hf:∀x∈l,AFn L (.fn kf) (fs++[.int .u8 (x.toNat:Int)]++cs) H (fun r H'=>r=.bool (p x)∧H'=H)):AFn L (.fn 154) [v,.fn kf fs cs] H (fun r H'=>r=.bool (l.any p)∧H'=H):=by
 refine AFn.of_body (F:=T154.1) (by rw [hL];rfl) rfl ?_
 refine Wn0 ?_
 refine opsP_all rfl (indexFuncG_a hL (k:=186) rfl hv hl hf) ?_
 rintro r h' ⟨rfl,rfl⟩
 rw [←findG_any l 0]
 refine Wn0 ?_
 exact FnQ.at rfl ⟨rfl,rfl⟩
theorem bad_v (b:UInt8):VFn L 153 [.int .u8 (b.toNat:Int)] (.bool (badB b)):=by
 unfold badB
 refine VFn.start (F:=T153.1) (by rw [hL];rfl) rfl rfl rfl ?_
 by_cases h1:b.toNat < 33
 ·rw [show decide (b.toNat < 33∨126 < b.toNat)=true by simp [h1]]
  refine Wf0 (show (b.toNat:Int) < 33 by omega) ?_
  exact FnQ.ret rfl rfl
 ·by_cases h2:126 < b.toNat
  ·rw [show decide (b.toNat < 33∨126 < b.toNat)=true by simp [h2]]
   refine Wf0 (Q2 (show ¬(b.toNat:Int) < 33 by omega) (show (126:Int) < b.toNat by omega)) ?_
   exact FnQ.ret rfl rfl
  ·rw [show decide (b.toNat < 33∨126 < b.toNat)=false by simp [h1,h2]]
   refine Wf0 (Q2 (show ¬(b.toNat:Int) < 33 by omega) (show ¬(126:Int) < b.toNat by omega)) ?_
   exact FnQ.ret rfl rfl
theorem oddS_v (s:List UInt8):VFn L 152 [.str s] (.bool (oddS s)):=by
 unfold oddS
 refine VFn.start (F:=T152.1) (by rw [hL];rfl) rfl rfl rfl ?_
 by_cases h0:s=[]
 ·subst h0
  (repeat' (first|refine Z0 ?_|refine Z3 ?_|refine Z2 ?_|simp only [seval,push_cast,↓reduceIte,↓bP_some,↓aP_true,reduceCtorEq,seqV,show (([]:List UInt8) == [])=true from rfl]))
  exact FnQ.ret rfl rfl
 ·have h0':(s == [])=false:=by cases s with|nil=>exact absurd rfl h0|cons a b=>rfl
  by_cases h1:40 < s.length
  ·rw [show (decide (s=[]∨40 < s.length)||s.any badB)=true by simp [h1]]
   (repeat' (first|refine Z0 ?_|refine Z3 ?_|refine Z2 ?_|simp only [seval,push_cast,↓reduceIte,↓bP_some,↓aP_true,reduceCtorEq,seqV,h0',show (40:Int) < (s.length:Int) by omega]))
   exact FnQ.ret rfl rfl
  ·rw [show (decide (s=[]∨40 < s.length)||s.any badB)=s.any badB by simp [h0,h1]]
   (repeat' (first|refine Z0 ?_|refine Z1 ?_|refine Z2 ?_|simp only [seval,push_cast,↓reduceIte,↓bP_some,↓aP_true,reduceCtorEq,seqV,h0',show ¬(40:Int) < (s.length:Int) by omega]))
   refine opsP_all rfl (containsB_a hL (H:=[some (.arr 1 (s.map (rowG (fun b=>V.int .u8 (b.toNat:Int)))))]) (kf:=153) (fs:=[]) (cs:=[]) (p:=badB) (IsG.ref (a:=0) (l:=s) rfl) (by omega) (fun x _=>(bad_v hL x).at _)) ?_
   rintro r h' ⟨rfl,rfl⟩
   refine Wn0 ?_
   exact FnQ.frz [] rfl rfl
theorem odd_v {s:Nat} {l:List (List UInt8)} {c:Option Nat} (hs:s=1∨l=[]) (hl:l.length < 4611686018427387904):VFn L 118 [tl srow s l c] (.bool (l.any oddS)):=by
 refine VFn.start (F:=T118.1) (by rw [hL];rfl) rfl rfl rfl ?_
 refine Wn0 ?_
 refine opsP_all rfl (containsS_a hL (H:=[]) (kf:=152) (fs:=[]) (cs:=[]) (p:=oddS) (IsG.tl (g:=V.str) (fun _=>rfl) hs) hl (fun x _=>(oddS_v hL x).at _)) ?_
 rintro r h' ⟨rfl,rfl⟩
 refine Wn0 ?_
 exact FnQ.ret rfl rfl
theorem indexS_v {s:Nat} {l:List (List UInt8)} {c:Option Nat} {y:List UInt8} (hs:s=1∨l=[]) (hl:l.length < 4611686018427387904):VFn L 187 [tl srow s l c,.str y] (.int .i64 (findG (fun x=>y == x) l 0)):=by
 refine VFn.start (F:=T187.1) (by rw [hL];rfl) rfl rfl rfl ?_
 (repeat' (first|refine Z0 ?_|refine Z3 ?_|refine Z2 ?_|simp only [seval,push_cast,↓reduceIte,↓bP_some,↓aP_true,reduceCtorEq]))
 refine wCnt rfl 8 l.length (fun _=>[]) (fun j=>findG (fun x=>y == x) l 0=findG (fun x=>y == x) (l.drop j) j) rfl rfl ?_ ?_
 ·intro j hj hI
  obtain ⟨x,hx,hm⟩:=get_of hj
  obtain rfl:=size_of hs hj
  have hd:=drop_atG hx
  cases hp:(y == x) with
  | true=>
   (repeat' (first|refine Z0 ?_|refine Z3 ?_|refine Z2 ?_|simp only [seval,push_cast,↓reduceIte,↓bP_some,↓aP_true,reduceCtorEq,hj,iaQ_tl hj,hx,srow_eq,seqV,hp]))
   rw [show findG (fun x=>y == x) l 0=(j:Int) by rw [hI,hd];exact if_pos hp]
   exact FnQ.ret rfl rfl
  | false=>
   (repeat' (first|refine Z0 ?_|refine Z3 ?_|refine Z2 ?_|simp only [seval,push_cast,↓reduceIte,↓bP_some,↓aP_true,reduceCtorEq,hj,iaQ_tl hj,hx,srow_eq,seqV,hp,wrap_succ (show j < 9223372036854775807 by omega)]))
   refine qR_n rfl rfl ?_
   rw [hI,hd]
   exact if_neg (by simp [hp])
 ·intro hI
  refine Wn0 ?_
  rw [show findG (fun x=>y == x) l 0=-1 by rw [hI,List.drop_eq_nil_of_le (Nat.le_refl _)];rfl]
  exact FnQ.ret rfl rfl
theorem containS_v {s:Nat} {l:List (List UInt8)} {c:Option Nat} {y:List UInt8} (hs:s=1∨l=[]) (hl:l.length < 4611686018427387904):VFn L 155 [tl srow s l c,.str y] (.bool (l.contains y)):=by
 have ki:=indexS_v hL (c:=c) (y:=y) hs hl
 have he:l.contains y=decide (0≤findG (fun x=>y == x) l 0):=by rw [findG_any,List.contains_eq_any_beq]
 rw [he]
 refine VFn.start (F:=T155.1) (by rw [hL];rfl) rfl rfl rfl ?_
 refine Wn1 ki ?_
 exact FnQ.ret rfl rfl
theorem twice_v {s:Nat} {l:List (List UInt8)} {c:Option Nat} (hs:s=1∨l=[]) (hl:l.length < 4611686018427387904):VFn L 119 [tl srow s l c] (.bool (twiceL l 0 l.length)):=by
 refine VFn.start (F:=T119.1) (by rw [hL];rfl) rfl rfl rfl ?_
 (repeat' (first|refine Z0 ?_|refine Z3 ?_|refine Z2 ?_|simp only [seval,push_cast,↓reduceIte,↓bP_some,↓aP_true,reduceCtorEq]))
 refine wCnt rfl 7 l.length (fun _=>[]) (fun j=>twiceL l 0 l.length=twiceL l j (l.length - j)) rfl rfl ?_ ?_
 ·intro j hj hI
  obtain ⟨x,hx,hm⟩:=get_of hj
  obtain rfl:=size_of hs hj
  have kc:=containS_v hL (s:=1) (l:=l.take j) (c:=c.map (· - 0)) (y:=x) (.inl rfl) (by rw [List.length_take];omega)
  have he:twiceL l j (l.length - j)=((l.take j).contains x||twiceL l (j+1) (l.length - (j+1))):=by
   rw [show l.length - j=(l.length - (j+1))+1 by omega]
   conv=>lhs;unfold twiceL
   rw [hx]
  rw [he] at hI
  cases hp:(l.take j).contains x with
  | true=>
   rw [hp] at kc hI
   rw [Bool.true_or] at hI
   rw [hI]
   (repeat' (first|refine Z0 ?_|refine Z3 ?_|refine Z2 ?_|refine opsV_call rfl rfl (kc) ?_|simp only [seval,push_cast,↓reduceIte,↓bP_some,↓aP_true,reduceCtorEq,hj,iaQ_tl hj,hx,srow_eq,sliceV_hi one_ok (Nat.le_of_lt hj)]))
   exact FnQ.ret rfl rfl
  | false=>
   rw [hp] at kc hI
   rw [Bool.false_or] at hI
   (repeat' (first|refine Z0 ?_|refine Z3 ?_|refine Z2 ?_|refine opsV_call rfl rfl (kc) ?_|simp only [seval,push_cast,↓reduceIte,↓bP_some,↓aP_true,reduceCtorEq,hj,iaQ_tl hj,hx,srow_eq,sliceV_hi one_ok (Nat.le_of_lt hj),wrap_succ (show j < 9223372036854775807 by omega)]))
   exact qR_n rfl rfl hI
 ·intro hI
  rw [Nat.sub_self] at hI
  rw [show twiceL l 0 l.length=false by rw [hI];unfold twiceL;rfl]
  refine Wn0 ?_
  exact FnQ.ret rfl rfl
theorem fits_v {c:Ct} {s:Nat} {k:Option Nat} (hr:c.rule < 256):VFn L 120 [.agg (ctC c s k)] (.bool (fitsC c)):=by
 have ko:=of_v hL hr
 obtain ⟨name,cands,seats,rule⟩:=c
 unfold ruleW at ko
 unfold ctC fitsC
 simp only at *
 by_cases h1:seats < 1
 ·rw [decide_eq_false (by omega),Bool.false_and]
  refine VFn.start (F:=T120.1) (by rw [hL];rfl) rfl rfl rfl ?_
  refine Wf0 h1 ?_
  exact FnQ.frz [] rfl rfl
 by_cases h2:10 < seats
 ·rw [decide_eq_false (by omega),Bool.false_and]
  refine VFn.start (F:=T120.1) (by rw [hL];rfl) rfl rfl rfl ?_
  refine Wf0 (Q2 h1 h2) ?_
  exact FnQ.frz [] rfl rfl
 rw [decide_eq_true (show 1≤seats∧seats≤10 by omega),Bool.true_and]
 generalize seatsR rule=q at *
 refine VFn.start (F:=T120.1) (by rw [hL];rfl) rfl rfl rfl ?_
 by_cases e1:q=1
 ·subst e1
  rw [if_pos rfl]
  refine Wf1 (Q2 h1 h2) ko ?_
  exact FnQ.frz [] rfl rfl
 by_cases e2:q=2
 ·subst e2
  rw [if_neg e1,if_pos rfl]
  refine Wf1 (Q2 h1 h2) ko ?_
  exact FnQ.frz [] rfl rfl
 by_cases e3:q=3
 ·subst e3
  rw [if_neg e1,if_neg e2]
  refine Wf1 (Q2 h1 h2) ko ?_
  exact FnQ.frz [] rfl rfl
 ·rw [if_neg e1,if_neg e2,decide_eq_false e3]
  refine Wf1 (Q5 h1 h2 e1 e2 e3) ko ?_
  exact FnQ.frz [] rfl rfl
theorem ctCheck_v {c:Ct} {s:Nat} {k:Option Nat} (hs:s=1∨c.cands=[]) (hl:c.cands.length < 4611686018427387904) (hr:c.rule < 256):VFn L 64 [.agg (ctC c s k)] (.int .i64 (checkC c)):=by
 have k1:=odd_v hL (s:=1) (l:=[c.name]) (c:=some 1) (.inl rfl) (by simp)
 have k2:=odd_v hL (c:=k) hs hl
 have k3:=twice_v hL (c:=k) hs hl
 have k4:=fits_v hL (s:=s) (k:=k) hr
 unfold checkC okCt
 obtain ⟨name,cands,seats,rule⟩:=c
 unfold ctC at *
 simp only at *
 rw [show [name].any oddS=oddS name by simp] at k1
 generalize fitsC _=q4 at *
 generalize twiceL _ _ _=q3 at *
 generalize List.any _ _=q2 at *
 generalize oddS name=q1 at *
 refine VFn.start (F:=T64.1) (by rw [hL];rfl) rfl rfl rfl ?_
 by_cases h0:10 < cands.length
 ·rw [if_pos h0]
  refine Wf0 (show (10:Int) < cands.length by omega) ?_
  exact FnQ.frz [] rfl rfl
 have h0':¬(10:Int) < cands.length:=by omega
 rw [if_neg h0]
 by_cases h1:cands=[]
 ·subst h1
  refine Xf0 h0' ?_
  exact FnQ.frz [] rfl rfl
 have h1':¬(cands.length:Int)=0:=by have:=List.length_pos_iff.2 h1;omega
 rw [decide_eq_false h1]
 refine Wf0 (Q2 h0' h1') ?_
 refine opsP_lendN [1] rfl rfl k1 rfl ?_
 cases q1 with
 | true=>
  refine Wn0 ?_
  exact FnQ.frz [] rfl rfl
 | false=>
 cases q2 with
 | true=>
  refine Wn1 k2 ?_
  exact FnQ.frz [] rfl rfl
 | false=>
 cases q3 with
 | true=>
  refine Wn2 k2 k3 ?_
  exact FnQ.frz [] rfl rfl
 | false=>
 cases q4 with
 | true=>
  refine Wn3 k2 k3 k4 ?_
  exact FnQ.frz [] rfl rfl
 | false=>
  refine Wn3 k2 k3 k4 ?_
  exact FnQ.frz [] rfl rfl
end Go.Proofs.YtigdhgbkgfagiaaGreat
