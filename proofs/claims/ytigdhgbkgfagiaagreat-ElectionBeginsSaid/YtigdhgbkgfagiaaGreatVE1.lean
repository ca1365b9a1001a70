/- Elections as values: outcomes, voters, entries. · Copies of lists, walked: as values, and as blocks. -/
import Derived.Test.YtigdhgbkgfagiaaGreatVPB
import Derived.Test.YtigdhgbkgfagiaaGreatVRl
import Derived.Test.YtigdhgbkgfagiaaGreatVM2
set_option maxRecDepth 100000
set_option linter.unusedVariables false
namespace Go.Proofs.YtigdhgbkgfagiaaGreat
structure Rq where
 neg:Bool
 num:Nl Nat
 den:Nl Nat
structure Dq where
 had:Nl Rq
 lost:Rq
 el:Nl Int
 out:Nl Int
structure Tq where
 among:Nl Int
 chosen:Int
structure Oq where
 el:Nl Int
 rounds:Nl Dq
 ties:Nl Tq
structure Vt where
 name:List UInt8
 prec:Int
 state:Int
deriving DecidableEq
def rqrow (r:Rq):List V:=[.bool r.neg,nlv nrow 1 r.num,nlv nrow 1 r.den]
def dqrow (d:Dq):List V:=[nlv rqrow 3 d.had,.bool d.lost.neg,nlv nrow 1 d.lost.num,nlv nrow 1 d.lost.den,nlv mrow 1 d.el,nlv mrow 1 d.out]
def tqrow (t:Tq):List V:=[nlv mrow 1 t.among,.int .i64 t.chosen]
def oqC (o:Oq):List V:=[nlv mrow 1 o.el,nlv dqrow 6 o.rounds,nlv tqrow 2 o.ties]
def vtrow (v:Vt):List V:=[.str v.name,.int .i64 v.prec,.int .u8 v.state]
def enrow (e:Int×Nl UInt8):List V:=[.int .u8 e.1,nlv byrow 1 e.2]
structure El where
 t:Tm
 stage:Int
 roll:Nl Vt
 recs:Nl Hb
 seed:Nat→Int
 lot:Nl Int
 o:Oq
 board:Nl (Int×Nl UInt8)
def seedC (f:Nat→Int):List V:=(List.range 32).map fun i=>.int .u8 (f i)
theorem seedC_len (f:Nat→Int):(seedC f).length=32:=rfl
def elC (x:El):List V:=tmC x.t++(.int .u8 x.stage::nlv vtrow 3 x.roll::nlv hbrow 2 x.recs::(seedC x.seed++(nlv mrow 1 x.lot::(oqC x.o++[nlv enrow 2 x.board]))))
theorem elC_len (x:El):(elC x).length=54:=rfl
theorem rqrow_eq (r:Rq):rqrow r=[.bool r.neg,nlv nrow 1 r.num,nlv nrow 1 r.den]:=rfl
theorem dqrow_eq (d:Dq):dqrow d=[nlv rqrow 3 d.had,.bool d.lost.neg,nlv nrow 1 d.lost.num,nlv nrow 1 d.lost.den,nlv mrow 1 d.el,nlv mrow 1 d.out]:=rfl
theorem tqrow_eq (t:Tq):tqrow t=[nlv mrow 1 t.among,.int .i64 t.chosen]:=rfl
theorem vtrow_eq (v:Vt):vtrow v=[.str v.name,.int .i64 v.prec,.int .u8 v.state]:=rfl
theorem enrow_eq (e:Int×Nl UInt8):enrow e=[.int .u8 e.1,nlv byrow 1 e.2]:=rfl
theorem closed_elC (x:El):(elC x).all V.closed=true:=by
 simp [elC,tmC,oqC,seedC,closed_nlv,V.closed,List.range_succ]
def rqE (r:Rq):Bool×List Nat×List Nat:=(r.neg,r.num.l,r.den.l)
abbrev RqE:=Bool×List Nat×List Nat
abbrev DqE:=List RqE×RqE×List Int×List Int
instance decRq:DecidableEq RqE:=inferInstance
instance decDq:DecidableEq DqE:=inferInstance
def dqE (d:Dq):DqE:=(d.had.l.map rqE,rqE d.lost,d.el.l,d.out.l)
def tqE (t:Tq):List Int×Int:=(t.among.l,t.chosen)
def bqE (b:Int×Nl Int):Int×List Int:=(b.1,b.2.l)
def hbE (b:Hb):List UInt8×List (Int×List Int):=(b.name,b.bals.l.map bqE)
def enE (e:Int×Nl UInt8):Int×List UInt8:=(e.1,e.2.l)
def rqS (a b:Rq):Bool:=decide (rqE a=rqE b)
def dqS (a b:Dq):Bool:=decide (dqE a=dqE b)
def tqS (a b:Tq):Bool:=decide (tqE a=tqE b)
def oqS (a b:Oq):Bool:=decide (a.el.l=b.el.l)&&(decide (a.rounds.l.map dqE=b.rounds.l.map dqE)&&decide (a.ties.l.map tqE=b.ties.l.map tqE))
def vtS (a b:Nl Vt):Bool:=decide (a.l=b.l)
def hbS (a b:Nl Hb):Bool:=decide (a.l.map hbE=b.l.map hbE)
def bqS (a b:Int×Nl Int):Bool:=decide (bqE a=bqE b)
def enS (a b:Nl (Int×Nl UInt8)):Bool:=decide (a.l.map enE=b.l.map enE)
def ctS (a b:Tm):Bool:=decide ((a.name,a.seats,a.rule,a.cands.l)=(b.name,b.seats,b.rule,b.cands.l))
def Tm.d (t:Tm):Rq:=⟨t.dneg,t.dnum,t.dden⟩
def Tm.m (t:Tm):Rq:=⟨t.lneg,t.lnum,t.lden⟩
def plS (a b:Tm):Bool:=decide ((a.lo,a.hi,a.skips)=(b.lo,b.hi,b.skips))
def tmS (a b:Tm):Bool:=ctS a b&&(plS a b&&(rqS a.d b.d&&(rqS a.m b.m&&decide (a.rounds.l=b.rounds.l))))
def sdS (f g:Nat→Int):Bool:=decide ((List.range 32).map f=(List.range 32).map g)
def elS (a b:El):Bool:=tmS a.t b.t&&(decide (a.stage=b.stage)&&(vtS a.roll b.roll&&(hbS a.recs b.recs&&(sdS a.seed b.seed&&(decide (a.lot.l=b.lot.l)&&(oqS a.o b.o&&enS a.board b.board))))))
theorem elS_refl {a:El}:elS a a=true:=by
 simp [elS,tmS,ctS,plS,rqS,vtS,hbS,sdS,oqS,enS]
def okI8 (o:Nl Int):Prop:=o.l.length≤17592186044416
def okN4 (o:Nl Nat):Prop:=o.l.length≤35184372088832
def okRq (r:Rq):Prop:=okN4 r.num∧okN4 r.den
def okDq (d:Dq):Prop:=d.had.l.length≤2513169434843∧(∀r∈d.had.l,okRq r)∧okRq d.lost∧okI8 d.el∧okI8 d.out
def okTq (t:Tq):Prop:=okI8 t.among
def okOq (o:Oq):Prop:=okI8 o.el∧(o.rounds.l.length≤1099511627744∧∀d∈o.rounds.l,okDq d)∧o.ties.l.length≤4398046510976∧∀t∈o.ties.l,okTq t
def okHb (b:Hb):Prop:=b.name.length < 4611686018427387904∧b.bals.l.length≤4398046510976∧∀p∈b.bals.l,okI8 p.2
def okEn (e:Int×Nl UInt8):Prop:=e.2.l.length≤140737488355328
structure okEl (x:El):Prop where
 t:okTm x.t
 roll:x.roll.l.length≤4398046510976
 recs:x.recs.l.length≤3518437208780∧∀b∈x.recs.l,okHb b
 lot:okI8 x.lot
 o:okOq x.o
 board:x.board.l.length≤4398046510976∧∀e∈x.board.l,okEn e
end Go.Proofs.YtigdhgbkgfagiaaGreat
set_option maxHeartbeats 4000000
set_option linter.unusedSimpArgs false
namespace Go.Proofs.YtigdhgbkgfagiaaGreat
def cvM {α:Type} (n:Nat):Nl α→V
 | none=>.lst 0 [] (some 0)
 | some l=>.ref 0 n 0 l.length (if l.length=0 then some 0 else none)
def chM {α:Type} (f:α→List V) (n:Nat):Nl α→Heap
 | none=>[]
 | some l=>[some (.arr n (l.map f))]
def V.flat:V→Bool
 | .lst ..|.int ..|.bool _|.str _=>true
 | _=>false
theorem deep_flat {h:Nat→Option Blk} {k:Nat}:∀{c:V},V.flat c=true→Deep h (k+1) c c:=fun {c} hc=>by
 cases c <;> first|exact .inl rfl|rfl|(simp [V.flat] at hc)
theorem nlv_full {α:Type} {f:α→List V} {n:Nat} {l:List α} (h:l≠[]):nlv f n (some l)=tl f n l none:=by
 have:¬l.length=0:=fun e=>h (List.length_eq_zero_iff.1 e)
 simp only [nlv,this,if_false];rfl
theorem nlv_hollow {α:Type} {f:α→List V} {n:Nat}:nlv f n (some [])=.lst 1000003 [] none:=rfl
theorem rowsOf_hollow {s:Nat} {c:Option Nat} {g:Nat→Option Blk}:rowsOf s g (.lst 1000003 [] c)=some ([],[]):=by simp [rowsOf]
theorem flat_nlv {α:Type} {f:α→List V} {n:Nat} {o:Nl α}:V.flat (nlv f n o)=true:=by
 cases o with
 | none=>rfl
 | some l=>unfold nlv;dsimp only;split <;> rfl
theorem clone_nlv {L:Lib} {α:Type} {f:α→List V} {n k:Nat} {o:Nl α} (hn:0 < n) (hf:∀x,∀c∈f x,V.flat c=true) (h:MFn L k [nlv f n o] (cvM n o) (chM f n o)):VFn L k [nlv f n o] (nlv f n o):=by
 refine ⟨h.1,closed_nlv,AFn.whole (P:=fun r=>r=nlv f n o) (h.2.mono fun r H' ⟨e1,e2⟩=>⟨2,nlv f n o,?_,rfl⟩)⟩
 subst e1 e2
 cases o with
 | none=>exact .inl rfl
 | some l=>
  refine ⟨l.map f,l.map f,rfl,hn,by rw [List.length_map];omega,List.length_map _,fun i r r' h1 h2=>?_,?_⟩
  ·rw [Nat.zero_add] at h1
   rw [h1] at h2
   cases h2
   refine ⟨rfl,fun j c d hc hd=>?_⟩
   rw [hc] at hd
   cases hd
   obtain ⟨x,-,rfl⟩:=List.mem_map.1 (List.mem_of_getElem? h1)
   exact deep_flat (hf x c (List.mem_of_getElem? hc))
  ·unfold nlv
   dsimp only
variable {L:Lib} (hL:L.T=tab.get)
include hL
theorem clone_i {o:Nl Int} (hl:o.l.length*8≤140737488355328):MFn L 39 [nlv mrow 1 o] (cvM 1 o) (chM mrow 1 o):=by
 refine ⟨by simp [V.closeds,closed_nlv],AFn.of_body (F:=T39.1) (by rw [hL];rfl) rfl ?_⟩
 cases o with
 | none=>
  refine Wf0 @nlv.eq_1 ?_
  exact FnQ.at rfl ⟨rfl,rfl⟩
 | some l=>
  by_cases hne:l=[]
  ·subst hne
   rw [nlv_hollow]
   refine Xf0 (Q2 @isnilQ_non @rowsOf_hollow) ?_
   exact FnQ.sh [some 0] [] rfl rfl rfl rfl ⟨rfl,rfl⟩
  ·have h1:¬l.length≤0:=fun e=>hne (List.length_eq_zero_iff.1 (Nat.le_zero.1 e))
   have h2:¬l.length=0:=fun e=>hne (List.length_eq_zero_iff.1 e)
   have h3:l.length*8≤140737488355328:=hl
   have h4:isnilQ 0 false (tl mrow 1 l none)=some (.bool false):=isnil_tlG hne
   rw [nlv_full hne]
   refine Wf0 (Q5 h1 h3 h4 @rowsOf_tlG (Q2 @Nat.zero_add @List.nil_append.{0})) ?_
   exact FnQ.sh [some 1] [] rfl rfl rfl (sh_c (sh_b closed_mrow rfl) sh_n) ⟨by simp only [cvM,h2,if_false];rfl,rfl⟩
theorem clone_iv {o:Nl Int} (hl:o.l.length*8≤140737488355328):VFn L 39 [nlv mrow 1 o] (nlv mrow 1 o):=clone_nlv (by decide) (fun x c hc=>by simp [mrow] at hc;subst hc;rfl) (clone_i hL hl)
theorem clone_s {o:Nl (List UInt8)} (hl:o.l.length*16≤140737488355328):MFn L 78 [nlv srow 1 o] (cvM 1 o) (chM srow 1 o):=by
 refine ⟨by simp [V.closeds,closed_nlv],AFn.of_body (F:=T78.1) (by rw [hL];rfl) rfl ?_⟩
 cases o with
 | none=>
  refine Wf0 @nlv.eq_1 ?_
  exact FnQ.at rfl ⟨rfl,rfl⟩
 | some l=>
  by_cases hne:l=[]
  ·subst hne
   rw [nlv_hollow]
   refine Xf0 (Q2 @isnilQ_non @rowsOf_hollow) ?_
   exact FnQ.sh [some 0] [] rfl rfl rfl rfl ⟨rfl,rfl⟩
  ·have h1:¬l.length≤0:=fun e=>hne (List.length_eq_zero_iff.1 (Nat.le_zero.1 e))
   have h2:¬l.length=0:=fun e=>hne (List.length_eq_zero_iff.1 e)
   have h3:l.length*16≤140737488355328:=hl
   have h4:isnilQ 0 false (tl srow 1 l none)=some (.bool false):=isnil_tlG hne
   rw [nlv_full hne]
   refine Wf0 (Q5 h1 h3 h4 @rowsOf_tlG (Q2 @Nat.zero_add @List.nil_append.{0})) ?_
   exact FnQ.sh [some 1] [] rfl rfl rfl (sh_c (sh_b closed_srow rfl) sh_n) ⟨by simp only [cvM,h2,if_false];rfl,rfl⟩
theorem clone_sv {o:Nl (List UInt8)} (hl:o.l.length*16≤140737488355328):VFn L 78 [nlv srow 1 o] (nlv srow 1 o):=clone_nlv (by decide) (fun x c hc=>by simp [srow] at hc;subst hc;rfl) (clone_s hL hl)
theorem clone_n {o:Nl Nat} (hl:o.l.length*4≤140737488355328):MFn L 79 [nlv nrow 1 o] (cvM 1 o) (chM nrow 1 o):=by
 refine ⟨by simp [V.closeds,closed_nlv],AFn.of_body (F:=T79.1) (by rw [hL];rfl) rfl ?_⟩
 cases o with
 | none=>
  refine Wf0 @nlv.eq_1 ?_
  exact FnQ.at rfl ⟨rfl,rfl⟩
 | some l=>
  by_cases hne:l=[]
  ·subst hne
   rw [nlv_hollow]
   refine Xf0 (Q2 @isnilQ_non @rowsOf_hollow) ?_
   exact FnQ.sh [some 0] [] rfl rfl rfl rfl ⟨rfl,rfl⟩
  ·have h1:¬l.length≤0:=fun e=>hne (List.length_eq_zero_iff.1 (Nat.le_zero.1 e))
   have h2:¬l.length=0:=fun e=>hne (List.length_eq_zero_iff.1 e)
   have h3:l.length*4≤140737488355328:=hl
   have h4:isnilQ 0 false (tl nrow 1 l none)=some (.bool false):=isnil_tlG hne
   rw [nlv_full hne]
   refine Wf0 (Q5 h1 h3 h4 @rowsOf_tlG (Q2 @Nat.zero_add @List.nil_append.{0})) ?_
   exact FnQ.sh [some 1] [] rfl rfl rfl (sh_c (sh_b closed_nrow rfl) sh_n) ⟨by simp only [cvM,h2,if_false];rfl,rfl⟩
theorem clone_nv {o:Nl Nat} (hl:o.l.length*4≤140737488355328):VFn L 79 [nlv nrow 1 o] (nlv nrow 1 o):=clone_nlv (by decide) (fun x c hc=>by simp [nrow] at hc;subst hc;rfl) (clone_n hL hl)
theorem clone_by {o:Nl UInt8} (hl:o.l.length*1≤140737488355328):MFn L 141 [nlv byrow 1 o] (cvM 1 o) (chM byrow 1 o):=by
 refine ⟨by simp [V.closeds,closed_nlv],AFn.of_body (F:=T141.1) (by rw [hL];rfl) rfl ?_⟩
 cases o with
 | none=>
  refine Wf0 @nlv.eq_1 ?_
  exact FnQ.at rfl ⟨rfl,rfl⟩
 | some l=>
  by_cases hne:l=[]
  ·subst hne
   rw [nlv_hollow]
   refine Xf0 (Q2 @isnilQ_non @rowsOf_hollow) ?_
   exact FnQ.sh [some 0] [] rfl rfl rfl rfl ⟨rfl,rfl⟩
  ·have h1:¬l.length≤0:=fun e=>hne (List.length_eq_zero_iff.1 (Nat.le_zero.1 e))
   have h2:¬l.length=0:=fun e=>hne (List.length_eq_zero_iff.1 e)
   have h3:l.length*1≤140737488355328:=hl
   have h4:isnilQ 0 false (tl byrow 1 l none)=some (.bool false):=isnil_tlG hne
   rw [nlv_full hne]
   refine Wf0 (Q5 h1 h3 h4 @rowsOf_tlG (Q2 @Nat.zero_add @List.nil_append.{0})) ?_
   exact FnQ.sh [some 1] [] rfl rfl rfl (sh_c (sh_b (fun _=>rfl) rfl) sh_n) ⟨by simp only [cvM,h2,if_false];rfl,rfl⟩
theorem clone_byv {o:Nl UInt8} (hl:o.l.length*1≤140737488355328):VFn L 141 [nlv byrow 1 o] (nlv byrow 1 o):=clone_nlv (by decide) (fun x c hc=>by simp [byrow] at hc;subst hc;rfl) (clone_by hL hl)
theorem clone_vt {o:Nl Vt} (hl:o.l.length*32≤140737488355328):MFn L 40 [nlv vtrow 3 o] (cvM 3 o) (chM vtrow 3 o):=by
 refine ⟨by simp [V.closeds,closed_nlv],AFn.of_body (F:=T40.1) (by rw [hL];rfl) rfl ?_⟩
 cases o with
 | none=>
  refine Wf0 @nlv.eq_1 ?_
  exact FnQ.at rfl ⟨rfl,rfl⟩
 | some l=>
  by_cases hne:l=[]
  ·subst hne
   rw [nlv_hollow]
   refine Xf0 (Q2 @isnilQ_non @rowsOf_hollow) ?_
   exact FnQ.sh [some 0] [] rfl rfl rfl rfl ⟨rfl,rfl⟩
  ·have h1:¬l.length≤0:=fun e=>hne (List.length_eq_zero_iff.1 (Nat.le_zero.1 e))
   have h2:¬l.length=0:=fun e=>hne (List.length_eq_zero_iff.1 e)
   have h3:l.length*32≤140737488355328:=hl
   have h4:isnilQ 0 false (tl vtrow 3 l none)=some (.bool false):=isnil_tlG hne
   rw [nlv_full hne]
   refine Wf0 (Q5 h1 h3 h4 @rowsOf_tlG (Q2 @Nat.zero_add @List.nil_append.{0})) ?_
   exact FnQ.sh [some 1] [] rfl rfl rfl (sh_c (sh_b (fun _=>rfl) rfl) sh_n) ⟨by simp only [cvM,h2,if_false];rfl,rfl⟩
theorem clone_vtv {o:Nl Vt} (hl:o.l.length*32≤140737488355328):VFn L 40 [nlv vtrow 3 o] (nlv vtrow 3 o):=clone_nlv (by decide) (fun x c hc=>by simp [vtrow] at hc;rcases hc with rfl|rfl|rfl <;> rfl) (clone_vt hL hl)
theorem clone_rq {o:Nl Rq} (hl:o.l.length*56≤140737488355328):MFn L 140 [nlv rqrow 3 o] (cvM 3 o) (chM rqrow 3 o):=by
 refine ⟨by simp [V.closeds,closed_nlv],AFn.of_body (F:=T140.1) (by rw [hL];rfl) rfl ?_⟩
 cases o with
 | none=>
  refine Wf0 @nlv.eq_1 ?_
  exact FnQ.at rfl ⟨rfl,rfl⟩
 | some l=>
  by_cases hne:l=[]
  ·subst hne
   rw [nlv_hollow]
   refine Xf0 (Q2 @isnilQ_non @rowsOf_hollow) ?_
   exact FnQ.sh [some 0] [] rfl rfl rfl rfl ⟨rfl,rfl⟩
  ·have h1:¬l.length≤0:=fun e=>hne (List.length_eq_zero_iff.1 (Nat.le_zero.1 e))
   have h2:¬l.length=0:=fun e=>hne (List.length_eq_zero_iff.1 e)
   have h3:l.length*56≤140737488355328:=hl
   have h4:isnilQ 0 false (tl rqrow 3 l none)=some (.bool false):=isnil_tlG hne
   rw [nlv_full hne]
   refine Wf0 (Q5 h1 h3 h4 @rowsOf_tlG (Q2 @Nat.zero_add @List.nil_append.{0})) ?_
   exact FnQ.sh [some 1] [] rfl rfl rfl (sh_c (sh_b (fun _=>by simp [rqrow,V.closed,closed_nlv]) rfl) sh_n) ⟨by simp only [cvM,h2,if_false];rfl,rfl⟩
theorem clone_rqv {o:Nl Rq} (hl:o.l.length*56≤140737488355328):VFn L 140 [nlv rqrow 3 o] (nlv rqrow 3 o):=clone_nlv (by decide) (fun x c hc=>by simp [rqrow] at hc;rcases hc with rfl|rfl|rfl <;> first|rfl|exact flat_nlv) (clone_rq hL hl)
theorem clone_dq {o:Nl Dq} (hl:o.l.length*128≤140737488355328):MFn L 83 [nlv dqrow 6 o] (cvM 6 o) (chM dqrow 6 o):=by
 refine ⟨by simp [V.closeds,closed_nlv],AFn.of_body (F:=T83.1) (by rw [hL];rfl) rfl ?_⟩
 cases o with
 | none=>
  refine Wf0 @nlv.eq_1 ?_
  exact FnQ.at rfl ⟨rfl,rfl⟩
 | some l=>
  by_cases hne:l=[]
  ·subst hne
   rw [nlv_hollow]
   refine Xf0 (Q2 @isnilQ_non @rowsOf_hollow) ?_
   exact FnQ.sh [some 0] [] rfl rfl rfl rfl ⟨rfl,rfl⟩
  ·have h1:¬l.length≤0:=fun e=>hne (List.length_eq_zero_iff.1 (Nat.le_zero.1 e))
   have h2:¬l.length=0:=fun e=>hne (List.length_eq_zero_iff.1 e)
   have h3:l.length*128≤140737488355328:=hl
   have h4:isnilQ 0 false (tl dqrow 6 l none)=some (.bool false):=isnil_tlG hne
   rw [nlv_full hne]
   refine Wf0 (Q5 h1 h3 h4 @rowsOf_tlG (Q2 @Nat.zero_add @List.nil_append.{0})) ?_
   exact FnQ.sh [some 1] [] rfl rfl rfl (sh_c (sh_b (fun _=>by simp [dqrow,V.closed,closed_nlv]) rfl) sh_n) ⟨by simp only [cvM,h2,if_false];rfl,rfl⟩
theorem clone_dqv {o:Nl Dq} (hl:o.l.length*128≤140737488355328):VFn L 83 [nlv dqrow 6 o] (nlv dqrow 6 o):=clone_nlv (by decide) (fun x c hc=>by simp [dqrow] at hc;rcases hc with rfl|rfl|rfl|rfl|rfl|rfl <;> first|rfl|exact flat_nlv) (clone_dq hL hl)
theorem clone_tq {o:Nl Tq} (hl:o.l.length*32≤140737488355328):MFn L 84 [nlv tqrow 2 o] (cvM 2 o) (chM tqrow 2 o):=by
 refine ⟨by simp [V.closeds,closed_nlv],AFn.of_body (F:=T84.1) (by rw [hL];rfl) rfl ?_⟩
 cases o with
 | none=>
  refine Wf0 @nlv.eq_1 ?_
  exact FnQ.at rfl ⟨rfl,rfl⟩
 | some l=>
  by_cases hne:l=[]
  ·subst hne
   rw [nlv_hollow]
   refine Xf0 (Q2 @isnilQ_non @rowsOf_hollow) ?_
   exact FnQ.sh [some 0] [] rfl rfl rfl rfl ⟨rfl,rfl⟩
  ·have h1:¬l.length≤0:=fun e=>hne (List.length_eq_zero_iff.1 (Nat.le_zero.1 e))
   have h2:¬l.length=0:=fun e=>hne (List.length_eq_zero_iff.1 e)
   have h3:l.length*32≤140737488355328:=hl
   have h4:isnilQ 0 false (tl tqrow 2 l none)=some (.bool false):=isnil_tlG hne
   rw [nlv_full hne]
   refine Wf0 (Q5 h1 h3 h4 @rowsOf_tlG (Q2 @Nat.zero_add @List.nil_append.{0})) ?_
   exact FnQ.sh [some 1] [] rfl rfl rfl (sh_c (sh_b (fun _=>by simp [tqrow,V.closed,closed_nlv]) rfl) sh_n) ⟨by simp only [cvM,h2,if_false];rfl,rfl⟩
theorem clone_tqv {o:Nl Tq} (hl:o.l.length*32≤140737488355328):VFn L 84 [nlv tqrow 2 o] (nlv tqrow 2 o):=clone_nlv (by decide) (fun x c hc=>by simp [tqrow] at hc;rcases hc with rfl|rfl <;> first|rfl|exact flat_nlv) (clone_tq hL hl)
theorem clone_hb {o:Nl Hb} (hl:o.l.length*40≤140737488355328):MFn L 80 [nlv hbrow 2 o] (cvM 2 o) (chM hbrow 2 o):=by
 refine ⟨by simp [V.closeds,closed_nlv],AFn.of_body (F:=T80.1) (by rw [hL];rfl) rfl ?_⟩
 cases o with
 | none=>
  refine Wf0 @nlv.eq_1 ?_
  exact FnQ.at rfl ⟨rfl,rfl⟩
 | some l=>
  by_cases hne:l=[]
  ·subst hne
   rw [nlv_hollow]
   refine Xf0 (Q2 @isnilQ_non @rowsOf_hollow) ?_
   exact FnQ.sh [some 0] [] rfl rfl rfl rfl ⟨rfl,rfl⟩
  ·have h1:¬l.length≤0:=fun e=>hne (List.length_eq_zero_iff.1 (Nat.le_zero.1 e))
   have h2:¬l.length=0:=fun e=>hne (List.length_eq_zero_iff.1 e)
   have h3:l.length*40≤140737488355328:=hl
   have h4:isnilQ 0 false (tl hbrow 2 l none)=some (.bool false):=isnil_tlG hne
   rw [nlv_full hne]
   refine Wf0 (Q5 h1 h3 h4 @rowsOf_tlG (Q2 @Nat.zero_add @List.nil_append.{0})) ?_
   exact FnQ.sh [some 1] [] rfl rfl rfl (sh_c (sh_b (fun _=>by simp [hbrow,V.closed,closed_nlv]) rfl) sh_n) ⟨by simp only [cvM,h2,if_false];rfl,rfl⟩
theorem clone_hbv {o:Nl Hb} (hl:o.l.length*40≤140737488355328):VFn L 80 [nlv hbrow 2 o] (nlv hbrow 2 o):=clone_nlv (by decide) (fun x c hc=>by simp [hbrow] at hc;rcases hc with rfl|rfl <;> first|rfl|exact flat_nlv) (clone_hb hL hl)
theorem clone_bq {o:Nl (Int×Nl Int)} (hl:o.l.length*32≤140737488355328):MFn L 81 [nlv balrow 2 o] (cvM 2 o) (chM balrow 2 o):=by
 refine ⟨by simp [V.closeds,closed_nlv],AFn.of_body (F:=T81.1) (by rw [hL];rfl) rfl ?_⟩
 cases o with
 | none=>
  refine Wf0 @nlv.eq_1 ?_
  exact FnQ.at rfl ⟨rfl,rfl⟩
 | some l=>
  by_cases hne:l=[]
  ·subst hne
   rw [nlv_hollow]
   refine Xf0 (Q2 @isnilQ_non @rowsOf_hollow) ?_
   exact FnQ.sh [some 0] [] rfl rfl rfl rfl ⟨rfl,rfl⟩
  ·have h1:¬l.length≤0:=fun e=>hne (List.length_eq_zero_iff.1 (Nat.le_zero.1 e))
   have h2:¬l.length=0:=fun e=>hne (List.length_eq_zero_iff.1 e)
   have h3:l.length*32≤140737488355328:=hl
   have h4:isnilQ 0 false (tl balrow 2 l none)=some (.bool false):=isnil_tlG hne
   rw [nlv_full hne]
   refine Wf0 (Q5 h1 h3 h4 @rowsOf_tlG (Q2 @Nat.zero_add @List.nil_append.{0})) ?_
   exact FnQ.sh [some 1] [] rfl rfl rfl (sh_c (sh_b (fun _=>by simp [balrow,V.closed,closed_nlv]) rfl) sh_n) ⟨by simp only [cvM,h2,if_false];rfl,rfl⟩
theorem clone_bqv {o:Nl (Int×Nl Int)} (hl:o.l.length*32≤140737488355328):VFn L 81 [nlv balrow 2 o] (nlv balrow 2 o):=clone_nlv (by decide) (fun x c hc=>by simp [balrow] at hc;rcases hc with rfl|rfl <;> first|rfl|exact flat_nlv) (clone_bq hL hl)
end Go.Proofs.YtigdhgbkgfagiaaGreat
