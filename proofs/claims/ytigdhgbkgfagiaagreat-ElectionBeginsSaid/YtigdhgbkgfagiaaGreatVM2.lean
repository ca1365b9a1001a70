/- AL: memory seen whole: a value with all that it points to, as a value that stands by itself. · AL: slices that may be nil; values that own what they point to. · AL: what comes in from outside, of whatever type, as values of AL. · A law of AL, told of a call from outside. · AL: regions that draw their order, walked with the blocks that each operation touches. · Walks as lemmas: what is left to show is worked out by the walk. · Calls of closures; results; lists that may be nil. -/
import Derived.Test.YtigdhgbkgfagiaaGreatVM1
import Derived.Lib.SmallJoins
import Derived.Deep.Grids
import Derived.ChangeSlices
import Derived.Test.YtigdhgbkgfagiaaGreatVQ2
import Derived.ProofKit
import Derived.OpenShut
import Derived.ChangeOld
import Derived.SizedLaws
set_option linter.unusedVariables false
namespace Go.Proofs.YtigdhgbkgfagiaaGreat
def Deep (h:Nat→Option Blk):Nat→V→V→Prop
 | 0,_,_=>False
 | n+1,v,v'=>
  match v with
  | .agg cs=>∃ds:List V,v'=.agg ds∧ds.length=cs.length∧∀(i:Nat) (c d:V),cs[i]?=some c→ds[i]?=some d→Deep h n c d
  | .ref a size off len cap=>∃(rows rs:List (List V)),h a=some (.arr size rows)∧0 < size∧off+len≤rows.length∧rs.length=len∧
      (∀(i:Nat) (r r':List V),rows[off+i]?=some r→rs[i]?=some r'→r'.length=r.length∧∀(j:Nat) (c d:V),r[j]?=some c→r'[j]?=some d→Deep h n c d)∧v'=.lst (if len=0 then 1000003 else size) rs none
  | .tup cs=>∃ds:List V,v'=.tup ds∧ds.length=cs.length∧∀(i:Nat) (c d:V),cs[i]?=some c→ds[i]?=some d→Deep h n c d
  | .fn ..|.ptr ..|.iface ..|.yld ..|.mapp ..=>False
  | .lst s rows cap=>v'=.lst s rows cap∨∃rs:List (List V),rs.length=rows.length∧(∀(i:Nat) (r r':List V),rows[i]?=some r→rs[i]?=some r'→r'.length=r.length∧∀(j:Nat) (c d:V),r[j]?=some c→r'[j]?=some d→Deep h n c d)∧v'=.lst s rs none
  | _=>v'=v
theorem imm_less {A:Nat→Prop} {w:World} {β:Nat→Option Nat} {h:Nat→Option Blk} (b:Nat) (x:Imm A w β h b):Imm A w (fun _=>none) (fun _=>none) b:=⟨x.lt,fun ⟨a,ha,_⟩=>ha rfl,x.al,x.arr⟩
theorem rel_deep {A:Nat→Prop} {N:Nums} {w:World} {β:Nat→Option Nat} {h:Nat→Option Blk} (hh:HeapR A N w β h) (hA:∀b,Live β h b→A b):∀(n:Nat) (v v':V) (x:Value) {β0:Nat→Option Nat},(∀a b,β0 a=some b→β a=some b)→Deep h n v v'→Rel N w (Imm A w β h) β0 v x→Rel N w (Imm A w (fun _=>none) (fun _=>none)) (fun _=>none) v' x
 | 0,_,_,_,_,_,hd,_=>hd.elim
 | n+1,v,v',x,β0,h0,hd,hr=>by
  cases v with
  | agg cs=>
   obtain ⟨ds,rfl,hl,hds⟩:=hd
   cases hr with
   | agg _ _ ys h00 h1 h2=>
    refine .agg _ ds ys (by omega) h1 (fun i d y hdi hyi=>?_)
    have hlt:i < cs.length:=by have:=(List.getElem?_eq_some_iff.1 hdi).1;omega
    have hc:cs[i]?=some cs[i]:=List.getElem?_eq_getElem hlt
    exact rel_deep hh hA n _ _ _ h0 (hds i _ _ hc hdi) (h2 i _ _ hc hyi)
  | ref a size off len cap=>
   obtain ⟨rows,rs,h1,h2,h3,rfl,h5,rfl⟩:=hd
   cases hr with
   | ref _ _ _ _ _ _ b x c hb hc hlc hx hm hnn=>
    obtain ⟨b',q1,q2,cells,T,fz,q3,q4,q5,q6⟩:=hh.at' a _ h1
    rw [h0 _ _ hb] at q1;cases q1
    have key:∀(i:Nat) (r':List V),rs[i]?=some r'→∃r,rows[off+i]?=some r∧r'.length=r.length∧r'.length=size∧¬rs.length=0∧∀(j:Nat) (c d:V),r[j]?=some c→r'[j]?=some d→Deep h n c d:=fun i r' hi=>by
     have hlt:=(List.getElem?_eq_some_iff.1 hi).1
     have hg:rows[off+i]?=some (rows[off+i]'(by omega)):=List.getElem?_eq_getElem _
     obtain ⟨g1,g2⟩:=h5 i _ _ hg hi
     exact ⟨_,hg,g1,by rw [g1];exact q5 _ _ hg,by omega,g2⟩
    have cell:∀(i:Nat) (r':List V) (j:Nat) (d:V),rs[i]?=some r'→r'[j]?=some d→∃y,cells[(off+i)*size+j]?=some y∧y.oneCell'=true∧Rel N w (Imm A w (fun _=>none) (fun _=>none)) (fun _=>none) d y:=fun i r' j d hi hj=>by
     obtain ⟨r,g1,g2,_,_,g3⟩:=key i r' hi
     have hlt:=(List.getElem?_eq_some_iff.1 hj).1
     have hg:r[j]?=some (r[j]'(by omega)):=List.getElem?_eq_getElem _
     obtain ⟨y,k1,k2,k3⟩:=q6 _ _ _ _ g1 hg
     exact ⟨y,k1,k2,rel_deep hh hA n _ _ _ (fun _ _ h=>h) (g3 j _ _ hg hj) k3⟩
    refine Rel.lst (fun _=>none) (if rs.length=0 then 1000003 else size) rs none x c b (off*size) (fun i j=>(cells[(off+i)*size+j]?).getD undef) (fun k hk=>by cases hk) hlc (fun h9=>⟨?_,q2,fun ⟨a',ha',_⟩=>ha' rfl,hA b ⟨a,by rw [h1];simp,h0 _ _ hb⟩,cells,T,fz,q3⟩) (fun h=>absurd h hnn)
     (fun i r' hi=>?_) (fun i r' j d hi hj=>?_) (fun i r' j d hi hj=>?_) ⟨fun e1 e2=>?_,fun _ _=>hnn⟩
    ·rcases hx with h|h
     ·omega
     ·exact h
    ·obtain ⟨_,_,_,g3,g4,_⟩:=key i r' hi
     rw [if_neg g4];exact g3
    ·obtain ⟨_,_,_,_,g4,_⟩:=key i r' hi
     obtain ⟨y,k1,k2,_⟩:=cell i r' j d hi hj
     rw [if_neg g4,show off*size+i*size+j=(off+i)*size+j by rw [Nat.add_mul]]
     refine ⟨?_,by rw [k1];exact k2⟩
     unfold World.cell?
     simp only [q3]
     rw [k1];rfl
    ·obtain ⟨y,k1,_,k3⟩:=cell i r' j d hi hj
     rw [k1];exact k3
    ·rw [if_pos e2] at e1;cases e1
  | fn f a b=>exact hd.elim
  | ptr=>exact hd.elim
  | iface=>exact hd.elim
  | tup cs=>
   obtain ⟨ds,rfl,hl,hds⟩:=hd
   cases hr with
   | tup _ _ ys h00 h2=>
    refine .tup _ ds ys (by omega) (fun i d y hdi hyi=>?_)
    have hlt:i < cs.length:=by have:=(List.getElem?_eq_some_iff.1 hdi).1;omega
    have hc:cs[i]?=some cs[i]:=List.getElem?_eq_getElem hlt
    exact rel_deep hh hA n _ _ _ h0 (hds i _ _ hc hdi) (h2 i _ _ hc hyi)
  | yld=>exact hd.elim
  | mapp=>exact hd.elim
  | int k z=>obtain rfl:v'=_:=hd;cases hr;exact .int _ _ _
  | bool b=>obtain rfl:v'=_:=hd;cases hr;exact .bool _ _
  | str s=>obtain rfl:v'=_:=hd;cases hr;exact .str _ _
  | nilp=>obtain rfl:v'=_:=hd;cases hr;exact .nilp _
  | nilf=>obtain rfl:v'=_:=hd;cases hr;exact .nilf _
  | nili=>obtain rfl:v'=_:=hd;cases hr;exact .nili _
  | nilm=>obtain rfl:v'=_:=hd;cases hr;exact .nilm _
  | bot=>obtain rfl:v'=_:=hd;cases hr with|bot _ y hy=>exact .bot _ _ hy
  | lst s rows cap=>
   cases hr with
   | lst _ _ _ _ a c b off ys hc hlc ha hn hr hy h1 hz=>
    have hd':v'=.lst s rows cap∨∃rs:List (List V),rs.length=rows.length∧(∀(i:Nat) (r r':List V),rows[i]?=some r→rs[i]?=some r'→r'.length=r.length∧∀(j:Nat) (c d:V),r[j]?=some c→r'[j]?=some d→Deep h n c d)∧v'=.lst s rs none:=hd
    rcases hd' with rfl|⟨rs,e1,e2,rfl⟩
    ·exact .lst _ s rows cap a c b off ys hc hlc (fun h0=>⟨(ha h0).1,imm_less b (ha h0).2⟩) hn hr hy (fun i row j x h2 h3=>(h1 i row j x h2 h3).mono imm_less (fun _ _=>rfl) (fun _ _ h=>h) (fun _ _ h=>h)) hz
    ·have key:∀(i:Nat) (r':List V),rs[i]?=some r'→∃r,rows[i]?=some r∧r'.length=r.length∧∀(j:Nat) (c d:V),r[j]?=some c→r'[j]?=some d→Deep h n c d:=fun i r' hi=>by
       have hlt:=(List.getElem?_eq_some_iff.1 hi).1
       have hg:rows[i]?=some (rows[i]'(by omega)):=List.getElem?_eq_getElem _
       exact ⟨_,hg,e2 i _ _ hg hi⟩
     have:=Rel.lst (N:=N) (w:=w) (S:=Imm A w (fun _=>none) (fun _=>none)) (fun _=>none) s rs none a c b off ys (fun k h=>by cases h) (by omega) (fun h0=>⟨(ha (by omega)).1,imm_less b (ha (by omega)).2⟩) hn
      (fun i row hi=>by obtain ⟨r,g1,g2,_⟩:=key i row hi;rw [g2];exact hr i r g1)
      (fun i row j x hi hj=>by
       obtain ⟨r,g1,g2,_⟩:=key i row hi
       have hlt:=(List.getElem?_eq_some_iff.1 hj).1
       exact hy i r j _ g1 (List.getElem?_eq_getElem (by omega)))
      (fun i row j x hi hj=>by
       obtain ⟨r,g1,g2,g3⟩:=key i row hi
       have hlt:=(List.getElem?_eq_some_iff.1 hj).1
       have hg:r[j]?=some (r[j]'(by omega)):=List.getElem?_eq_getElem _
       exact rel_deep hh hA n _ _ _ (fun _ _ h=>by cases h) (g3 j _ _ hg hj) (h1 i r j _ g1 hg)) ⟨fun h2 h3=>hz.1 h2 (by omega),fun h2 h3=>hz.2 h2 (by omega)⟩
     rw [e1] at this
     exact this
  | iptr s rows i o=>
   obtain rfl:v'=_:=hd
   cases hr with
   | iptr _ _ _ _ _ b off ys hS hr hy h1=>
    exact .iptr _ s rows i o b off ys (imm_less b hS) hr hy (fun i row j x h2 h3=>(h1 i row j x h2 h3).mono imm_less (fun _ _=>rfl) (fun _ _ h=>h) (fun _ _ h=>h))
def Deeps (h:Nat→Option Blk):List V→List V→Prop
 | [],[]=>True
 | v::vs,v'::vs'=>(∃n,Deep h n v v')∧Deeps h vs vs'
 | _,_=>False
theorem Deeps.at {h:Nat→Option Blk}:∀{vs vs':List V},Deeps h vs vs'→vs.length=vs'.length∧∀(i:Nat) (v v':V),vs[i]?=some v→vs'[i]?=some v'→∃n,Deep h n v v'
 | [],[],_=>⟨rfl,fun i v v' h=>by simp at h⟩
 | v::vs,v'::vs',⟨h1,h2⟩=>by
  obtain ⟨h3,h4⟩:=h2.at
  refine ⟨by simp [h3],fun i u u' hu hu'=>?_⟩
  cases i with
  | zero=>simp at hu hu';subst hu hu';exact h1
  | succ i=>exact h4 i u u' (by simpa using hu) (by simpa using hu')
 | [],_::_,h=>h.elim
 | _::_,[],h=>h.elim
def V.leaf:V→Bool
 | .int ..|.bool _|.str _|.nilp|.nilf|.nili|.nilm=>true
 | _=>false
def V.plain:V→Bool
 | .tup vs|.agg vs=>vs.all V.leaf
 | v=>v.leaf
theorem AFn.whole {L:Lib} {k:Nat} {vs:List V} {P:V→Prop} (h:AFn L (.fn k) vs [] (fun r H'=>∃n r',Deep H'.get n r r'∧P r')):AFn L (.fn k) vs [] (fun r h=>P r∧h=[]):=by
 intro C hC A w β xs hA hd0 hh hg ha fid hfid
 refine Calls.mono (h C hC A w β xs hA hd0 hh hg ha fid hfid) ?_
 have hlv:∀(g:Nat→Option Nat) (b:Nat),¬Live g (Heap.get []) b:=fun g b ⟨a,h,_⟩=>by simp [Heap.get] at h
 have hnone:Heap.get ([]:Heap)=fun _=>none:=by funext a;simp [Heap.get]
 rintro e w' ⟨v,r,H',β',rfl,⟨n,r',hd,hp⟩,h1,h2,h3,h4,hrel,h5,hfr⟩
 have hA':∀b,Live β' H'.get b→A b:=fun b hb=>(h5 b hb).elim (fun h=>hA b (.inl h)) (fun h=>absurd h (hlv _ b))
 refine ⟨v,r',[],fun _=>none,rfl,⟨hp,rfl⟩,Nat.le_refl _,fun _ _=>rfl,fun a ha=>absurd ha (by simp),⟨fun a k h=>by simp [Heap.get] at h,fun a a' b h=>absurd (by simp [Heap.get]) h⟩,?_,fun b hb=>absurd hb (hlv _ b),hfr⟩
 rw [hnone]
 exact rel_deep h4 hA' n _ _ _ (fun _ _ h=>h) hd hrel
end Go.Proofs.YtigdhgbkgfagiaaGreat
namespace Go.Proofs.YtigdhgbkgfagiaaGreat
abbrev Nl (α:Type):=Option (List α)
def Nl.l {α:Type}:Nl α→List α
 | none=>[]
 | some l=>l
def nlv {α:Type} (f:α→List V) (n:Nat):Nl α→V
 | none=>.lst 0 [] (some 0)
 | some l=>.lst (if l.length=0 then 1000003 else n) (l.map f) none
section
variable {α:Type} {f:α→List V} {n:Nat} {o:Nl α} {i:Nat}
theorem lenQ_nlv:lenQ (nlv f n o)=some (.int .i64 o.l.length):=by cases o <;> simp [lenQ,nlv,Nl.l]
theorem iaQ_nlv (h:i < o.l.length):iaQ n (nlv f n o) i=some (.iptr n (o.l.map f) i 0):=by
 cases o with
 | none=>simp [Nl.l] at h
 | some l=>
  have h0:¬l.length=0:=by simp only [Nl.l] at h;omega
  have h':i < l.length:=h
  simp [iaQ,nlv,Nl.l,h',h0]
theorem closed_nlv:V.closed (nlv f n o)=true:=by cases o <;> rfl
theorem isVal_nlv:V.isVal (nlv f n o)=true:=by cases o <;> rfl
theorem cells_nlv:V.cells (nlv f n o)=[nlv f n o]:=by cases o <;> rfl
theorem ren_nlv {σ:Nat→Sg}:V.ren σ (nlv f n o)=nlv f n o:=V.ren_closed _ closed_nlv
theorem nlv_tl:∃s c,nlv f n o=tl f s o.l c∧(s=n∨o.l=[]):=by
 cases o with
 | none=>exact ⟨0,some 0,rfl,.inr rfl⟩
 | some l=>
  by_cases h:l.length=0
  ·exact ⟨1000003,none,by simp [nlv,Nl.l,h,tl],.inr (List.length_eq_zero_iff.1 h)⟩
  ·exact ⟨n,none,by simp [nlv,Nl.l,h,tl],.inl rfl⟩
end
attribute [push_cast] lenQ_nlv isVal_nlv cells_nlv closed_nlv ren_nlv
abbrev HG:=Nat→Option Blk
abbrev FP:=Nat→Prop
def OwnLf {α:Type} (f:α→List V) (n:Nat) (h:HG) (v:V) (o:Nl α) (F:FP):Prop:=
 match o with
 | none=>v=.lst 0 [] (some 0)
 | some l=>(l=[]∧∃c,v=.lst 1000003 [] c)∨∃a c,v=.ref a n 0 l.length c∧h a=some (.arr n (l.map f))∧F a
def OwnSl {α:Type} (R:HG→List V→α→FP→Prop) (n:Nat) (h:HG) (v:V) (o:Nl α) (F:FP):Prop:=
 match o with
 | none=>v=.lst 0 [] (some 0)
 | some l=>(l=[]∧∃c,v=.lst 1000003 [] c)∨∃(a:Nat) (c:Option Nat) (rs:List (List V)) (g:Nat→Nat),v=.ref a n 0 l.length c∧h a=some (.arr n rs)∧F a∧rs.length=l.length∧
     ∀(i:Nat) (row:List V) (x:α),rs[i]?=some row→l[i]?=some x→R h row x (fun b=>(F b∧b≠a)∧g b=i)
def LocR {α:Type} (R:HG→List V→α→FP→Prop):Prop:=∀(h h':HG) (row:List V) (x:α) (F F':FP),R h row x F→(∀b,F b→F' b∧h' b=h b)→R h' row x F'
def UpR {α:Type} (R:HG→List V→α→FP→Prop):Prop:=∀(h h':HG) (m:Nat) (row:List V) (x:α) (F:FP),R h row x F→(∀b B,h b=some B→h' (m+b)=some (B.ren (upσ m)))→R h' (row.map (V.ren (upσ m))) x (fun b=>m≤b∧F (b - m))
theorem Deep.up {h:HG}:∀(n:Nat) {v v':V},Deep h n v v'→Deep h (n+1) v v'
 | 0,_,_,hd=>hd.elim
 | n+1,v,v',hd=>by
  cases v with
  | agg cs=>
   obtain ⟨ds,h1,h2,h3⟩:=hd
   exact ⟨ds,h1,h2,fun i c d hc hd=>Deep.up n (h3 i c d hc hd)⟩
  | tup cs=>
   obtain ⟨ds,h1,h2,h3⟩:=hd
   exact ⟨ds,h1,h2,fun i c d hc hd=>Deep.up n (h3 i c d hc hd)⟩
  | ref a size off len cap=>
   obtain ⟨rows,rs,h1,h2,h3,h4,h5,h6⟩:=hd
   exact ⟨rows,rs,h1,h2,h3,h4,fun i r r' hr hr'=>⟨(h5 i r r' hr hr').1,fun j c d hc hd=>Deep.up n ((h5 i r r' hr hr').2 j c d hc hd)⟩,h6⟩
  | lst s rows cap=>
   rcases hd with hd|⟨rs,h1,h2,h3⟩
   ·exact .inl hd
   ·exact .inr ⟨rs,h1,fun i r r' hr hr'=>⟨(h2 i r r' hr hr').1,fun j c d hc hd=>Deep.up n ((h2 i r r' hr hr').2 j c d hc hd)⟩,h3⟩
  | _=>exact hd
theorem Deep.le {h:HG} {n m:Nat} (hnm:n≤m) {v v':V} (hd:Deep h n v v'):Deep h m v v':=by
 induction hnm with
 | refl=>exact hd
 | step _ ih=>exact Deep.up _ ih
section
variable {α:Type} {f:α→List V} {R:HG→List V→α→FP→Prop} {n k:Nat} {h h':HG} {v:V} {o:Nl α} {F F':FP}
theorem ren_up_ref {n a s o m:Nat} {c:Option Nat}:V.ren (upσ n) (.ref a s o m c)=.ref (n+a) s o m c:=by simp [V.ren,upσ]
theorem ren_up_blk {m s:Nat} {rows:List (List V)}:Blk.ren (upσ m) (.arr s rows)=.arr s (rows.map fun r=>r.map (V.ren (upσ m))):=rfl
theorem leaf_ren {v:V} (h:v.leaf=true) (σ:Nat→Sg):V.ren σ v=v:=by cases v <;> first|rfl|(simp [V.leaf] at h)
theorem row_ren (hf:∀x,∀c∈f x,V.leaf c=true) (σ:Nat→Sg) (x:α):(f x).map (V.ren σ)=f x:=by
 have:∀(l:List V),(∀c∈l,V.leaf c=true)→l.map (V.ren σ)=l:=fun l=>by
  induction l with
  | nil=>intro _;rfl
  | cons c r ih=>intro h;rw [List.map_cons,leaf_ren (h c List.mem_cons_self),ih (fun d hd=>h d (List.mem_cons_of_mem _ hd))]
 exact this _ (hf x)
theorem OwnLf.up (hf:∀x,∀c∈f x,V.leaf c=true) {m:Nat} (hh:∀b B,h b=some B→h' (m+b)=some (B.ren (upσ m))) (H:OwnLf f n h v o F):OwnLf f n h' (v.ren (upσ m)) o (fun b=>m≤b∧F (b - m)):=by
 cases o with
 | none=>obtain rfl:v=_:=H;rfl
 | some l=>
  rcases H with ⟨rfl,c,rfl⟩|⟨a,c,rfl,h2,h3⟩
  ·exact .inl ⟨rfl,c,rfl⟩
  ·refine .inr ⟨m+a,c,ren_up_ref,?_,by omega,by rw [Nat.add_sub_cancel_left];exact h3⟩
   rw [hh a _ h2,ren_up_blk,List.map_map]
   congr 2
   exact List.map_congr_left fun x _=>row_ren hf _ x
theorem OwnSl.up (hR:LocR R) (hU:UpR R) {m:Nat} (hh:∀b B,h b=some B→h' (m+b)=some (B.ren (upσ m))) (H:OwnSl R n h v o F):OwnSl R n h' (v.ren (upσ m)) o (fun b=>m≤b∧F (b - m)):=by
 cases o with
 | none=>obtain rfl:v=_:=H;rfl
 | some l=>
  rcases H with ⟨rfl,c,rfl⟩|⟨a,c,rs,g,rfl,h2,h3,h4,h5⟩
  ·exact .inl ⟨rfl,c,rfl⟩
  ·refine .inr ⟨m+a,c,rs.map (fun r=>r.map (V.ren (upσ m))),fun b=>g (b - m),ren_up_ref,by rw [hh a _ h2,ren_up_blk],⟨by omega,by rw [Nat.add_sub_cancel_left];exact h3⟩,by simp [h4],fun i row x hr hx=>?_⟩
   rw [List.getElem?_map,Option.map_eq_some_iff] at hr
   obtain ⟨r,hr,rfl⟩:=hr
   refine hR _ _ _ _ _ _ (hU h h' m r x _ (h5 i r x hr hx) hh) (fun b hb=>⟨⟨⟨⟨hb.1,hb.2.1.1⟩,?_⟩,hb.2.2⟩,rfl⟩)
   have:=hb.2.1.2
   omega
end
end Go.Proofs.YtigdhgbkgfagiaaGreat
namespace Go.Proofs.YtigdhgbkgfagiaaGreat
open Go.ChangeShapes Go.WideShapes Go.ChangeAt Go.RowKit Go.Joins
abbrev OldW (W:World) (b:Nat):Prop:=Imm (fun b=>W.heap.size≤b∨True) W (fun _=>none) (Heap.get []) b
theorem oldW_of {W:World} {b o:Nat} {x:Value} (h:W.cell? ⟨b,o,none⟩=some x):OldW W b:=by
 unfold World.cell? at h
 dsimp only at h
 split at h
 ·rename_i c T fz hb
  exact ⟨(Array.getElem?_eq_some_iff.1 hb).1,fun ⟨a,ha,_⟩=>by simp [Heap.get] at ha,.inr trivial,c,T,fz,hb⟩
 ·cases h
theorem add_add {a:Addr} {i j:Nat}:a.add (i+j)=(a.add i).add j:=by
 unfold Addr.add
 by_cases h1:i=0
 ·subst h1;simp
 ·by_cases h2:j=0
  ·subst h2;simp
  ·rw [if_neg h1,if_neg h2,if_neg (by omega),Nat.add_assoc]
def OpenT (P:Program) (N:Nums) {α:Type} (t:TypeId) (f:α→List V) (good:α→Prop):Prop:=
 ∀(H:Type) (enc:TypeId×Value→H) (W:World) (fuel:Nat) (cs:List Value) (d:DataW H) (ps:List MemPlace),DataW.trod enc P W 0 (fun _=>true) true fuel t cs=some (d,ps)→(∀m∈d.weights P t,m≤reachBytes)→
  ∃a:α,good a∧(f a).length=cs.length∧∀(i:Nat) (c:V) (y:Value),(f a)[i]?=some c→cs[i]?=some y→y.oneCell'=true∧Rel N W (OldW W) (fun _=>none) c y
section
variable {P:Program} {N:Nums} {α β:Type} {t e:TypeId} {f:α→List V} {good:α→Prop}
theorem open_one {v:V} {x:Value} {cs:List Value} (hcs:cs=[x]) {Q:V→Value→Prop} (h:Q v x):([v]).length=cs.length∧∀(i:Nat) (c:V) (y:Value),([v])[i]?=some c→cs[i]?=some y→Q c y:=by
 subst hcs
 refine ⟨rfl,fun i c y hc hy=>?_⟩
 cases i with
 | zero=>simp at hc hy;subst hc hy;exact h
 | succ i=>simp at hc
theorem OpenT.int {k:IntKind} (ht:P.underlying t=some (.int k)):OpenT P N t (fun n:Int=>[.int k n]) (fun n=>k.min≤n∧n≤k.max):=fun H enc W fuel cs d ps h _=>by
 obtain ⟨n,hcs,_,hw⟩:=DataW.trod_int ht h
 refine ⟨n,?_,open_one hcs ⟨rfl,.int _ _ _⟩⟩
 simpa [Lit.wf] using hw
theorem OpenT.bool (ht:P.underlying t=some .bool):OpenT P N t (fun b:Bool=>[.bool b]) (fun _=>True):=fun H enc W fuel cs d ps h _=>by
 obtain ⟨n,hcs,_⟩:=DataW.trod_bool ht h
 exact ⟨n,trivial,open_one hcs ⟨rfl,.bool _ _⟩⟩
theorem OpenT.str (ht:P.underlying t=some .string):OpenT P N t (fun s:List UInt8=>[.str s]) (fun s=>s.length≤reachBytes):=fun H enc W fuel cs d ps h hr=>by
 obtain ⟨s,hcs,hd,_⟩:=DataW.trod_string ht h
 simp only [Prod.mk.injEq] at hd
 obtain ⟨rfl,rfl⟩:=hd
 exact ⟨s.data.toList,hr _ (by simp [DataW.weights]),open_one hcs ⟨rfl,.str _ _⟩⟩
theorem weights_all {H:Type} {e:TypeId}:∀{l:List (DataW H)} {i:Nat} {d:DataW H} {m:Nat},l[i]?=some d→m∈d.weights P e→m∈DataW.weightsAll P e l
 | [],i,d,m,h,_=>by simp at h
 | x::l,0,d,m,h,hm=>by simp at h;subst h;simp only [DataW.weightsAll];exact List.mem_append_left _ hm
 | x::l,i+1,d,m,h,hm=>by simp only [DataW.weightsAll];exact List.mem_append_right _ (weights_all (i:=i) (by simpa using h) hm)
theorem choose_list {α:Type} (Q:Nat→α→Prop):∀(n:Nat),(∀i,i < n→∃x,Q i x)→∃l:List α,l.length=n∧∀i x,l[i]?=some x→Q i x
 | 0,_=>⟨[],rfl,fun i x h=>by simp at h⟩
 | n+1,h=>by
  obtain ⟨l,h1,h2⟩:=choose_list Q n (fun i hi=>h i (by omega))
  obtain ⟨x,hx⟩:=h n (by omega)
  refine ⟨l++[x],by simp [h1],fun i y hi=>?_⟩
  by_cases c:i < l.length
  ·rw [List.getElem?_append_left c] at hi;exact h2 i y hi
  ·rw [List.getElem?_append_right (by omega)] at hi
   have:i - l.length=0:=by
    have:=(List.getElem?_eq_some_iff.1 hi).1;simp at this;omega
   rw [this] at hi;simp at hi;subst hi
   rw [show i=n by omega];exact hx
theorem OpenT.slice {n:Nat} (ht:P.underlying t=some (.slice e)) (hn:P.cellsOf e=n) (h0:0 < n) (hl:∀a,(f a).length=n) (he:OpenT P N e f good):OpenT P N t (fun o:Nl α=>[nlv f n o]) (fun o=>o.l.length*P.bytesOf e≤reachBytes∧∀x∈o.l,good x):=fun H enc W fuel cs d ps h hr=>by
 rcases DataW.trod_slice ht h with ⟨hcs,_⟩|⟨a,len,cap,elems,rest,m,_,hcs,hd,hb,hlc,hm,hlen,hel,_,_⟩
 ·exact ⟨none,⟨by simp [Nl.l],fun x hx=>by simp [Nl.l] at hx⟩,open_one hcs ⟨rfl,.lst _ 0 [] (some 0) none 0 0 0 (fun _ _=>undef) (fun k hk=>by cases hk;rfl) (Nat.le_refl _) (fun h=>by simp at h) (fun _=>rfl) (fun i row h=>by simp at h) (fun i row j x h=>by simp at h) (fun i row j x h=>by simp at h) ⟨fun _ _=>rfl,fun h=>by simp at h⟩⟩⟩
 ·simp only [Prod.mk.injEq] at hd
  obtain ⟨rfl,rfl⟩:=hd
  have hb1:(elems.length+rest.length)*P.bytesOf e≤reachBytes:=hr _ (by simp [DataW.weights,ht])
  have each:∀i,i < len→∃x:α,good x∧∀(j:Nat) (c:V),(f x)[j]?=some c→∃y,W.cell? (a.add (i*n+j))=some y∧y.oneCell'=true∧Rel N W (OldW W) (fun _=>none) c y:=fun i hi=>by
   have h1:=hel i hi
   have hg:elems[i]?=some elems[i]:=List.getElem?_eq_getElem (by omega)
   rw [hg,Option.bind_eq_some_iff] at h1
   obtain ⟨cs',h2,h3⟩:=h1
   obtain ⟨_,h4,h5⟩:=World.cells?_some h2
   obtain ⟨x,g1,g2,g3⟩:=he H enc W m cs' elems[i].1 elems[i].2 h3 (fun q hq=>hr q (by
    simp only [DataW.weights,ht]
    refine List.mem_cons_of_mem _ (List.mem_append_left _ (weights_all (i:=i) (d:=elems[i].1) ?_ hq))
    rw [List.getElem?_map,hg];rfl))
   refine ⟨x,g1,fun j c hc=>?_⟩
   have hj:j < n:=by have:=(List.getElem?_eq_some_iff.1 hc).1;rw [hl] at this;exact this
   have hy:cs'[j]?=some (cs'[j]'(by omega)):=List.getElem?_eq_getElem _
   have h6:=h5 j (by omega)
   rw [hy,hn] at h6
   obtain ⟨k1,k2⟩:=g3 j c _ hc hy
   refine ⟨_,?_,k1,k2⟩
   rw [←h6,add_add]
  obtain ⟨l,hl1,hl2⟩:=choose_list _ len each
  have hrow:∀(i:Nat) (row:List V),(l.map f)[i]?=some row→∃x,row=f x∧row.length=n∧l[i]?=some x:=fun i row hi=>by
   rw [List.getElem?_map,Option.map_eq_some_iff] at hi
   obtain ⟨x,hx,rfl⟩:=hi
   exact ⟨x,rfl,hl x,hx⟩
  have hspot:0 < l.length→a=⟨a.block,a.off,none⟩:=fun h0'=>by
   obtain ⟨x,hx⟩:∃x,l[0]?=some x:=⟨l[0],List.getElem?_eq_getElem h0'⟩
   obtain ⟨c,hc⟩:∃c,(f x)[0]?=some c:=⟨(f x)[0]'(by rw [hl];exact h0),List.getElem?_eq_getElem _⟩
   obtain ⟨y,hy,_⟩:=(hl2 0 x hx).2 0 c hc
   obtain ⟨b,off,spot⟩:=a
   have:=World.cell?_spot hy
   simp [Addr.add] at this
   subst this;rfl
  have hcell:∀(i:Nat) (x:α) (j:Nat) (c:V),l[i]?=some x→(f x)[j]?=some c→∃y,W.cell? ⟨a.block,a.off+i*n+j,none⟩=some y∧y.oneCell'=true∧Rel N W (OldW W) (fun _=>none) c y:=fun i x j c hx hc=>by
   obtain ⟨y,k1,k2⟩:=(hl2 i x hx).2 j c hc
   refine ⟨y,?_,k2⟩
   have hs:=hspot (by have:=(List.getElem?_eq_some_iff.1 hx).1;omega)
   rw [hs] at k1
   rw [←k1]
   congr 1
   simp [Addr.add,Nat.add_assoc]
  refine ⟨some l,⟨?_,fun x hx=>?_⟩,open_one hcs ⟨rfl,?_⟩⟩
  ·refine Nat.le_trans (Nat.mul_le_mul_right _ ?_) hb1
   show l.length≤_
   omega
  ·obtain ⟨i,hi⟩:=List.mem_iff_getElem?.1 hx
   exact (hl2 i x hi).1
  ·have hz:∀{i:Nat} {row:List V},(l.map f)[i]?=some row→¬l.length=0:=fun hi=>by
     have:=(List.getElem?_eq_some_iff.1 hi).1;simp at this;omega
   have:=Rel.lst (N:=N) (w:=W) (S:=OldW W) (fun _=>none) (if l.length=0 then 1000003 else n) (l.map f) none (some a) cap a.block a.off (fun i j=>(W.cell? ⟨a.block,a.off+i*n+j,none⟩).getD undef) (fun k hk=>by cases hk) (by simp;omega)
    (fun h0'=>by
     have h1:0 < l.length:=by simpa using h0'
     refine ⟨congrArg some (hspot h1),?_⟩
     obtain ⟨x,hx⟩:∃x,l[0]?=some x:=⟨l[0],List.getElem?_eq_getElem h1⟩
     obtain ⟨c,hc⟩:∃c,(f x)[0]?=some c:=⟨(f x)[0]'(by rw [hl];exact h0),List.getElem?_eq_getElem _⟩
     obtain ⟨y,hy,_⟩:=hcell 0 x 0 c hx hc
     exact oldW_of hy) (fun h=>by cases h)
    (fun i row hi=>by
     rw [if_neg (hz hi)]
     obtain ⟨x,_,h2,_⟩:=hrow i row hi
     exact h2)
    (fun i row j c hi hj=>by
     rw [if_neg (hz hi)]
     obtain ⟨x,rfl,_,h3⟩:=hrow i row hi
     obtain ⟨y,k1,k2,_⟩:=hcell i x j c h3 hj
     rw [k1];exact ⟨rfl,k2⟩)
    (fun i row j c hi hj=>by
     obtain ⟨x,rfl,_,h3⟩:=hrow i row hi
     obtain ⟨y,k1,_,k3⟩:=hcell i x j c h3 hj
     rw [k1];exact k3) ⟨fun e1 e2=>(by rw [List.length_map] at e2;rw [if_pos e2] at e1;cases e1),fun _ _=>(by intro h;cases h)⟩
   rw [List.length_map] at this
   rw [←hl1]
   exact this
def OpenFs (P:Program) (N:Nums) {α:Type} (off:Nat) (fs:List Field) (f:α→List V) (good:α→Prop):Prop:=
 ∀(H:Type) (enc:TypeId×Value→H) (W:World) (m:Nat) (cs:List Value) (xs:List (DataW H×List MemPlace)),xs.length=fs.length→(∀(i:Nat) (fd:Field),fs[i]?=some fd→DataW.trod enc P W 0 (fun _=>true) true m fd.type ((cs.drop fd.offset).take (P.cellsOf fd.type))=xs[i]?)→
  (∀q∈DataW.weightsEach P (fs.map (·.type)) (xs.map (·.1)),q≤reachBytes)→∃a:α,good a∧∀(i:Nat) (c:V) (y:Value),(f a)[i]?=some c→cs[off+i]?=some y→y.oneCell'=true∧Rel N W (OldW W) (fun _=>none) c y
theorem OpenFs.nil {off:Nat}:OpenFs P N off [] (fun _:Unit=>[]) (fun _=>True):=fun H enc W m cs xs _ _ _=>⟨(),trivial,fun i c y h=>by simp at h⟩
theorem OpenFs.cons {off n:Nat} {fd:Field} {fs:List Field} {g:β→List V} {goodg:β→Prop} (ho:fd.offset=off) (hc:P.cellsOf fd.type=n) (hl:∀a,(f a).length=n) (h:OpenT P N fd.type f good) (hs:OpenFs P N (off+n) fs g goodg) :
    OpenFs P N off (fd::fs) (fun p:α×β=>f p.1++g p.2) (fun p=>good p.1∧goodg p.2):=fun H enc W m cs xs hx hf hr=>by
 cases xs with
 | nil=>simp at hx
 | cons x xs=>
  have h1:=hf 0 fd rfl
  simp only [List.getElem?_cons_zero] at h1
  obtain ⟨a,g1,g2,g3⟩:=h H enc W m _ x.1 x.2 h1 (fun q hq=>hr q (by simp only [List.map_cons,DataW.weightsEach];exact List.mem_append_left _ hq))
  obtain ⟨b,k1,k2⟩:=hs H enc W m cs xs (by simpa using hx) (fun i fd' hi=>by have:=hf (i+1) fd' (by simpa using hi);simpa using this) (fun q hq=>hr q (by simp only [List.map_cons,DataW.weightsEach];exact List.mem_append_right _ hq))
  refine ⟨(a,b),⟨g1,k1⟩,fun i c y hci hy=>?_⟩
  simp only at hci
  by_cases q:i < n
  ·rw [List.getElem?_append_left (by rw [hl];exact q)] at hci
   refine g3 i c y hci ?_
   rw [List.getElem?_take,hc,if_pos q,List.getElem?_drop,ho];exact hy
  ·rw [List.getElem?_append_right (by rw [hl];omega),hl] at hci
   exact k2 (i - n) c y hci (by rw [show off+n+(i - n)=off+i by omega];exact hy)
theorem OpenT.struct {fs:Array Field} (ht:P.underlying t=some (.struct fs)) (hl:∀a,(f a).length=P.cellsOf t) (h:OpenFs P N 0 fs.toList f good):OpenT P N t f good:=fun H enc W fuel cs d ps hd hr=>by
 obtain ⟨xs,n,_,hx,hlen,hxl,hfs⟩:=DataW.trod_struct ht hd
 simp only [Prod.mk.injEq] at hx
 obtain ⟨rfl,rfl⟩:=hx
 obtain ⟨a,h1,h2⟩:=h H enc W n cs xs (by simpa using hxl) (fun i fd hi=>hfs i fd (by simpa using hi)) (fun q hq=>hr q (by simpa [DataW.weights,ht] using hq))
 exact ⟨a,h1,by rw [hl,hlen],fun i c y hc hy=>h2 i c y hc (by rw [Nat.zero_add];exact hy)⟩
theorem OpenT.map {f':β→List V} {good':β→Prop} (h:OpenT P N t f good) (g:α→β) (h1:∀a,f' (g a)=f a) (h2:∀a,good a→good' (g a)):OpenT P N t f' good':=fun H enc W fuel cs d ps hd hr=>by
 obtain ⟨a,g1,g2,g3⟩:=h H enc W fuel cs d ps hd hr
 exact ⟨g a,h2 a g1,by rw [h1];exact g2,fun i c y hc hy=>g3 i c y (by rw [←h1];exact hc) hy⟩
theorem OpenT.agg {fs:Array Field} (ht:P.underlying t=some (.struct fs)) (h:OpenT P N t f good) {H:Type} {enc:TypeId×Value→H} {W:World} {r:Reach} {b0:Nat} {v:Value} {d:DataW H} {ps:List MemPlace} (hv:Value.okWide P W r b0 t v) (hd:DataW.Trod enc P W 0 (fun _=>true) true t v d ps) (hr:∀m∈d.weights P t,m≤reachBytes) :
    ∃a:α,good a∧Rel N W (OldW W) (fun _=>none) (.agg (f a)) v:=by
 obtain ⟨cs,rfl,_⟩:=okWide_struct ht hv
 obtain ⟨fuel,hf⟩:=hd
 obtain ⟨a,h1,h2,h3⟩:=h H enc W fuel _ d ps hf hr
 have hc:(Value.agg cs).cells=cs:=rfl
 rw [hc] at h2 h3
 refine ⟨a,h1,.agg _ _ _ (by simpa using h2.symm) (fun i y hy=>?_) (fun i c y hc hy=>(h3 i c y hc (by simpa using hy)).2)⟩
 have hlt:i < (f a).length:=by rw [h2];simpa using (Array.getElem?_eq_some_iff.1 hy).1
 exact (h3 i _ y (List.getElem?_eq_getElem hlt) (by simpa using hy)).1
theorem OpenT.cell (g:α→V) (ht:P.underlying t=some (.slice e)) (h:OpenT P N t (fun a=>[g a]) good) {H:Type} {enc:TypeId×Value→H} {W:World} {r:Reach} {b0:Nat} {v:Value} {d:DataW H} {ps:List MemPlace} (hv:Value.okWide P W r b0 t v) (hd:DataW.Trod enc P W 0 (fun _=>true) true t v d ps) (hr:∀m∈d.weights P t,m≤reachBytes) :
    ∃a:α,good a∧Rel N W (OldW W) (fun _=>none) (g a) v:=by
 obtain ⟨a0,len,cap,rfl⟩:=okWide_slice ht hv
 obtain ⟨fuel,hf⟩:=hd
 obtain ⟨a,h1,h2,h3⟩:=h H enc W fuel _ d ps hf hr
 exact ⟨a,h1,(h3 0 _ _ rfl rfl).2⟩
end
end Go.Proofs.YtigdhgbkgfagiaaGreat
set_option maxRecDepth 100000
namespace Go.Proofs.YtigdhgbkgfagiaaGreat
open Go.ChangeShapes Go.WideShapes Go.ChangeAt Go.RowKit
def RelAll (W:World):List V→List Value→Prop
 | [],[]=>True
 | v::vs,x::xs=>Rel CC.N W (OldW W) (fun _=>none) v x∧RelAll W vs xs
 | _,_=>False
theorem RelAll.get {W:World}:∀{vs:List V} {xs:List Value},RelAll W vs xs→xs.length=vs.length∧∀(i:Nat) (v:V) (x:Value),vs[i]?=some v→xs[i]?=some x→Rel CC.N W (OldW W) (fun _=>none) v x
 | [],[],_=>⟨rfl,fun i v x h=>by simp at h⟩
 | v::vs,x::xs,⟨h1,h2⟩=>by
  obtain ⟨h3,h4⟩:=h2.get
  refine ⟨by simp [h3],fun i v' x' hv hx=>?_⟩
  cases i with
  | zero=>simp at hv hx;subst hv;subst hx;exact h1
  | succ i=>exact h4 i v' x' (by simpa using hv) (by simpa using hx)
 | [],_::_,h=>h.elim
 | _::_,[],h=>h.elim
theorem law_args {L:Lib} (hC:Ok L CC) {k:Nat} {vs:List V} {xs:List Value} (h:AFn L (.fn k) vs [] (fun r' H'=>r'=.bool true∧H'=[])) (hk:CT.fns k=some k) (W:World) (hr:RelAll W vs xs) :
    Calls Tryz.prog k xs.toArray W fun e w'=>e=.returned (.bool true)∧Below W.heap.size W w':=by
 obtain ⟨h1,h2⟩:=hr.get
 refine Calls.mono (h CC hC (fun b=>W.heap.size≤b∨True) W (fun _=>none) xs.toArray (fun _ _=>.inr trivial) (fun _ _=>rfl) ⟨fun a k h=>by simp [Heap.get] at h,fun a a' b h=>absurd (by simp [Heap.get]) h⟩ (fun g k v _ h=>by cases h) ⟨by simp [h1],fun i v x hv hx=>h2 i v x hv (by simpa using hx)⟩ k hk) ?_
 rintro e w' ⟨v,r',H',β',rfl,⟨rfl,_⟩,_,_,_,_,hrel,_,hf⟩
 cases hrel
 exact ⟨rfl,⟨hf.os,hf.tape,hf.output,hf.size,fun b hb=>hf.block b hb (fun ⟨a,ha,_⟩=>by simp [Heap.get] at ha)⟩⟩
end Go.Proofs.YtigdhgbkgfagiaaGreat
namespace Go.Proofs.YtigdhgbkgfagiaaGreat
section
variable {L:Lib} {i:AI} {l:List AI} {rs:List Rec} {ms:List Nat} {K:Env→Heap→Prop} {E:Env} {H:Heap}
theorem dops_op {e:Eff} (hg:i.goes E.get=some true) (hc:i.op.isCall=false) (he:i.op.exec H.length H.get (opval L.G E.get)=some e) (hu:(e.upd.all fun p=>Nat.blt p.1 H.length)=true)
    (hi:indB (ancM ms i.anc) { dst:=i.dst,looks:=i.looks,v:=some e.v,need:=e.need,eff:=e.all H.length,slot:=H.length,k:=e.new.length } 0 rs=true)
    (k:dopsP L l (rs++[{ dst:=i.dst,looks:=i.looks,v:=some e.v,need:=e.need,eff:=e.all H.length,slot:=H.length,k:=e.new.length }]) (ms++[ancM ms i.anc]) K (E.put i.dst e.v) (H.app e)):dopsP L (i::l) rs ms K E H:=by
 unfold dopsP dstepP
 rw [hg]
 dsimp only
 cases hop:i.op with
 | call c args=>rw [hop] at hc;cases hc
 | _=>
  rw [hop] at he
  dsimp only
  rw [he]
  exact ⟨hu,hi,k⟩
theorem dops_call {f:Nat} {args:List AOpd} {vs:List V} {r:V} (hg:i.goes E.get=some true) (hop:i.op=.call (.fn f) args) (hv:evals (opval L.G E.get) args=some vs) (hf:VFn L f vs r)
    (hi:indB (ancM ms i.anc) { dst:=i.dst,looks:=i.looks,v:=some r,need:=[],eff:=[],slot:=H.length,k:=0 } 0 rs=true)
    (k:dopsP L l (rs++[{ dst:=i.dst,looks:=i.looks,v:=some r,need:=[],eff:=[],slot:=H.length,k:=0 }]) (ms++[ancM ms i.anc]) K (E.put i.dst r) H):dopsP L (i::l) rs ms K E H:=by
 unfold dopsP dstepP
 rw [hg]
 dsimp only
 rw [hop]
 dsimp only
 unfold callee
 rw [hv]
 show FnD L (.fn f) vs H _
 obtain ⟨hv1,hv2,hv3⟩:=hf
 have e1:vs.map (V.ren (sgOf H ([].map some) []))=vs:=by rw [←V.rens_map];exact V.rens_closed _ hv1
 refine ⟨[],[],[],r,[],.fn f,rfl,rfl,rfl,?_,rfl,Nat.le_refl _,fun i hi=>by simp at hi,?_⟩
 ·rw [e1];exact hv3
 ·rw [V.ren_closed _ hv2]
  have e2:H.back [] []=H:=by simp [Heap.back,Heap.upds]
  rw [e2]
  exact ⟨hi,k⟩
theorem dops_make {f:Nat} {args:List AOpd} {vs:List V} {r:V} {h':Heap} (hg:i.goes E.get=some true) (hop:i.op=.call (.fn f) args) (hv:evals (opval L.G E.get) args=some vs) (hf:MFn L f vs r h')
    (hi:indB (ancM ms i.anc) { dst:=i.dst,looks:=i.looks,v:=some (r.ren (upσ H.length)),need:=[],eff:=effB H.length [] [] h',slot:=H.length,k:=h'.length } 0 rs=true)
    (k:dopsP L l (rs++[{ dst:=i.dst,looks:=i.looks,v:=some (r.ren (upσ H.length)),need:=[],eff:=effB H.length [] [] h',slot:=H.length,k:=h'.length }]) (ms++[ancM ms i.anc]) K (E.put i.dst (r.ren (upσ H.length))) (H++h'.map (Option.map (Blk.ren (upσ H.length))))):dopsP L (i::l) rs ms K E H:=by
 unfold dopsP dstepP
 rw [hg]
 dsimp only
 rw [hop]
 dsimp only
 unfold callee
 rw [hv]
 show FnD L (.fn f) vs H _
 obtain ⟨hv1,hv3⟩:=hf
 have e1:vs.map (V.ren (sgOf H ([].map some) []))=vs:=by rw [←V.rens_map];exact V.rens_closed _ hv1
 refine ⟨[],[],[],r,h',.fn f,rfl,rfl,rfl,?_,rfl,Nat.zero_le _,fun i hi=>by simp at hi,?_⟩
 ·rw [e1];exact hv3
 ·rw [outσ_nil]
  have e2:H.back [] h'=H++h'.map (Option.map (Blk.ren (upσ H.length))):=by simp [Heap.back,Heap.upds,outσ_nil]
  rw [e2]
  exact ⟨hi,k⟩
theorem dops_nil (k:K E H):dopsP L [] rs ms K E H:=k
theorem wDrawD {n0 N:Nat} {Q:Exit→Env→Heap→Prop} {c:AC} {l:List AI} {ks:List Nat} (h:c=.ops true l ks) (k:dopsP L l [] [] (fun E H=>Q .normal (E.kill ks) H) E H):SWP L n0 N c Q E H:=by
 subst h;exact SWP.draw k
end
end Go.Proofs.YtigdhgbkgfagiaaGreat
namespace Go.Proofs.YtigdhgbkgfagiaaGreat
structure Kw (L:Lib) (k:Nat) (vs:List V) (r:V):Prop where
 ok:VFn L k vs r
section
variable {L:Lib} {l:List AI} {K:Env→Heap→Prop} {E:Env} {H:Heap} {d:Option Nat} {anc:List Nat} {args:List AOpd} {k:Nat} {vs:List V} {r:V} {mk:List Nat}
theorem oU (c:Kw L k vs r) (h:opsP L l K (E.put d r) H) (hv:evals (opval L.G E.get) args=some vs:=by exact rfl):opsP L (⟨d,.call (.fn k) args,none,anc⟩::l) K E H:=opsP_call hv c.ok h
theorem oW (c:Kw L k vs r) (h:opsV mk L l K (E.put d r) H) (hm:mk.contains k=false:=by exact rfl) (hv:evals (opval L.G E.get) args=some vs:=by exact rfl):opsV mk L (⟨d,.call (.fn k) args,none,anc⟩::l) K E H:=opsV_call hm hv c.ok h
end
section
variable {α:Type} {l:List α} {i:Nat}
theorem iT (h:i < l.length) (f:α→List V) (s:Nat) (c:Option Nat):iaQ s (tl f s l c) i=some (.iptr s (l.map f) i 0):=iaQ_tl h
theorem iN {o:Nl α} (h:i < o.l.length) (f:α→List V) (s:Nat):iaQ s (nlv f s o) i=some (.iptr s (o.l.map f) i 0):=iaQ_nlv h
theorem Q2 {A B:Prop} (a:A) (b:B):A∧B:=⟨a,b⟩
theorem Q3 {A B C:Prop} (a:A) (b:B) (c:C):A∧B∧C:=⟨a,b,c⟩
theorem Q4 {A B C D:Prop} (a:A) (b:B) (c:C) (d:D):A∧B∧C∧D:=⟨a,b,c,d⟩
theorem Q5 {A B C D F:Prop} (a:A) (b:B) (c:C) (d:D) (f:F):A∧B∧C∧D∧F:=⟨a,b,c,d,f⟩
end
theorem Wn0 {P R:Prop} (z:R) (h:R→P:=by intro z;(repeat' (first|refine Z0 ?_|refine Z1 ?_|refine Z2 ?_|simp only [seval,push_cast,↓reduceIte,↓bP_some,↓aP_true,reduceCtorEq]));exact z):P:=h z
theorem Wn1 {P R:Prop} {L:Lib} {k1:Nat} {v1:List V} {r1:V} (c1:VFn L k1 v1 r1) (z:R) (h:Kw L k1 v1 r1→R→P:=by intro c1 z;(repeat' (first|refine Z0 ?_|refine Z1 ?_|refine Z2 ?_|refine oU c1 ?_|refine oW c1 ?_|simp only [seval,push_cast,↓reduceIte,↓bP_some,↓aP_true,reduceCtorEq]));exact z):P:=h ⟨c1⟩ z
theorem Wn2 {P R:Prop} {L:Lib} {k1 k2:Nat} {v1 v2:List V} {r1 r2:V} (c1:VFn L k1 v1 r1) (c2:VFn L k2 v2 r2) (z:R) (h:Kw L k1 v1 r1→Kw L k2 v2 r2→R→P:=by intro c1 c2 z;(repeat' (first|refine Z0 ?_|refine Z1 ?_|refine Z2 ?_|refine oU c1 ?_|refine oW c1 ?_|refine oU c2 ?_|refine oW c2 ?_|simp only [seval,push_cast,↓reduceIte,↓bP_some,↓aP_true,reduceCtorEq]));exact z):P:=h ⟨c1⟩ ⟨c2⟩ z
theorem Wn3 {P R:Prop} {L:Lib} {k1 k2 k3:Nat} {v1 v2 v3:List V} {r1 r2 r3:V} (c1:VFn L k1 v1 r1) (c2:VFn L k2 v2 r2) (c3:VFn L k3 v3 r3) (z:R) (h:Kw L k1 v1 r1→Kw L k2 v2 r2→Kw L k3 v3 r3→R→P:=by intro c1 c2 c3 z;(repeat' (first|refine Z0 ?_|refine Z1 ?_|refine Z2 ?_|refine oU c1 ?_|refine oW c1 ?_|refine oU c2 ?_|refine oW c2 ?_|refine oU c3 ?_|refine oW c3 ?_|simp only [seval,push_cast,↓reduceIte,↓bP_some,↓aP_true,reduceCtorEq]));exact z):P:=h ⟨c1⟩ ⟨c2⟩ ⟨c3⟩ z
theorem Wn4 {P R:Prop} {L:Lib} {k1 k2 k3 k4:Nat} {v1 v2 v3 v4:List V} {r1 r2 r3 r4:V} (c1:VFn L k1 v1 r1) (c2:VFn L k2 v2 r2) (c3:VFn L k3 v3 r3) (c4:VFn L k4 v4 r4) (z:R) (h:Kw L k1 v1 r1→Kw L k2 v2 r2→Kw L k3 v3 r3→Kw L k4 v4 r4→R→P:=by intro c1 c2 c3 c4 z;(repeat' (first|refine Z0 ?_|refine Z1 ?_|refine Z2 ?_|refine oU c1 ?_|refine oW c1 ?_|refine oU c2 ?_|refine oW c2 ?_|refine oU c3 ?_|refine oW c3 ?_|refine oU c4 ?_|refine oW c4 ?_|simp only [seval,push_cast,↓reduceIte,↓bP_some,↓aP_true,reduceCtorEq]));exact z):P:=h ⟨c1⟩ ⟨c2⟩ ⟨c3⟩ ⟨c4⟩ z
theorem Wn8 {P R:Prop} {L:Lib} {k1 k2 k3 k4 k5 k6 k7 k8:Nat} {v1 v2 v3 v4 v5 v6 v7 v8:List V} {r1 r2 r3 r4 r5 r6 r7 r8:V} (c1:VFn L k1 v1 r1) (c2:VFn L k2 v2 r2) (c3:VFn L k3 v3 r3) (c4:VFn L k4 v4 r4) (c5:VFn L k5 v5 r5) (c6:VFn L k6 v6 r6) (c7:VFn L k7 v7 r7) (c8:VFn L k8 v8 r8) (z:R) (h:Kw L k1 v1 r1→Kw L k2 v2 r2→Kw L k3 v3 r3→Kw L k4 v4 r4→Kw L k5 v5 r5→Kw L k6 v6 r6→Kw L k7 v7 r7→Kw L k8 v8 r8→R→P:=by intro c1 c2 c3 c4 c5 c6 c7 c8 z;(repeat' (first|refine Z0 ?_|refine Z1 ?_|refine Z2 ?_|refine oU c1 ?_|refine oW c1 ?_|refine oU c2 ?_|refine oW c2 ?_|refine oU c3 ?_|refine oW c3 ?_|refine oU c4 ?_|refine oW c4 ?_|refine oU c5 ?_|refine oW c5 ?_|refine oU c6 ?_|refine oW c6 ?_|refine oU c7 ?_|refine oW c7 ?_|refine oU c8 ?_|refine oW c8 ?_|simp only [seval,push_cast,↓reduceIte,↓bP_some,↓aP_true,reduceCtorEq]));exact z):P:=h ⟨c1⟩ ⟨c2⟩ ⟨c3⟩ ⟨c4⟩ ⟨c5⟩ ⟨c6⟩ ⟨c7⟩ ⟨c8⟩ z
theorem Wf0 {P R A:Prop} (a:A) (z:R) (h:A→R→P:=by intro a z;(repeat' (first|refine Z0 ?_|refine Z1 ?_|refine Z2 ?_|simp only [seval,push_cast,↓reduceIte,↓bP_some,↓aP_true,reduceCtorEq,a]));exact z):P:=h a z
theorem Wf1 {P R A:Prop} {L:Lib} {k1:Nat} {v1:List V} {r1:V} (a:A) (c1:VFn L k1 v1 r1) (z:R) (h:A→Kw L k1 v1 r1→R→P:=by intro a c1 z;(repeat' (first|refine Z0 ?_|refine Z1 ?_|refine Z2 ?_|refine oU c1 ?_|refine oW c1 ?_|simp only [seval,push_cast,↓reduceIte,↓bP_some,↓aP_true,reduceCtorEq,a]));exact z):P:=h a ⟨c1⟩ z
theorem Wf2 {P R A:Prop} {L:Lib} {k1 k2:Nat} {v1 v2:List V} {r1 r2:V} (a:A) (c1:VFn L k1 v1 r1) (c2:VFn L k2 v2 r2) (z:R) (h:A→Kw L k1 v1 r1→Kw L k2 v2 r2→R→P:=by intro a c1 c2 z;(repeat' (first|refine Z0 ?_|refine Z1 ?_|refine Z2 ?_|refine oU c1 ?_|refine oW c1 ?_|refine oU c2 ?_|refine oW c2 ?_|simp only [seval,push_cast,↓reduceIte,↓bP_some,↓aP_true,reduceCtorEq,a]));exact z):P:=h a ⟨c1⟩ ⟨c2⟩ z
theorem Wf3 {P R A:Prop} {L:Lib} {k1 k2 k3:Nat} {v1 v2 v3:List V} {r1 r2 r3:V} (a:A) (c1:VFn L k1 v1 r1) (c2:VFn L k2 v2 r2) (c3:VFn L k3 v3 r3) (z:R) (h:A→Kw L k1 v1 r1→Kw L k2 v2 r2→Kw L k3 v3 r3→R→P:=by intro a c1 c2 c3 z;(repeat' (first|refine Z0 ?_|refine Z1 ?_|refine Z2 ?_|refine oU c1 ?_|refine oW c1 ?_|refine oU c2 ?_|refine oW c2 ?_|refine oU c3 ?_|refine oW c3 ?_|simp only [seval,push_cast,↓reduceIte,↓bP_some,↓aP_true,reduceCtorEq,a]));exact z):P:=h a ⟨c1⟩ ⟨c2⟩ ⟨c3⟩ z
theorem Wf4 {P R A:Prop} {L:Lib} {k1 k2 k3 k4:Nat} {v1 v2 v3 v4:List V} {r1 r2 r3 r4:V} (a:A) (c1:VFn L k1 v1 r1) (c2:VFn L k2 v2 r2) (c3:VFn L k3 v3 r3) (c4:VFn L k4 v4 r4) (z:R) (h:A→Kw L k1 v1 r1→Kw L k2 v2 r2→Kw L k3 v3 r3→Kw L k4 v4 r4→R→P:=by intro a c1 c2 c3 c4 z;(repeat' (first|refine Z0 ?_|refine Z1 ?_|refine Z2 ?_|refine oU c1 ?_|refine oW c1 ?_|refine oU c2 ?_|refine oW c2 ?_|refine oU c3 ?_|refine oW c3 ?_|refine oU c4 ?_|refine oW c4 ?_|simp only [seval,push_cast,↓reduceIte,↓bP_some,↓aP_true,reduceCtorEq,a]));exact z):P:=h a ⟨c1⟩ ⟨c2⟩ ⟨c3⟩ ⟨c4⟩ z
theorem Wf5 {P R A:Prop} {L:Lib} {k1 k2 k3 k4 k5:Nat} {v1 v2 v3 v4 v5:List V} {r1 r2 r3 r4 r5:V} (a:A) (c1:VFn L k1 v1 r1) (c2:VFn L k2 v2 r2) (c3:VFn L k3 v3 r3) (c4:VFn L k4 v4 r4) (c5:VFn L k5 v5 r5) (z:R) (h:A→Kw L k1 v1 r1→Kw L k2 v2 r2→Kw L k3 v3 r3→Kw L k4 v4 r4→Kw L k5 v5 r5→R→P:=by intro a c1 c2 c3 c4 c5 z;(repeat' (first|refine Z0 ?_|refine Z1 ?_|refine Z2 ?_|refine oU c1 ?_|refine oW c1 ?_|refine oU c2 ?_|refine oW c2 ?_|refine oU c3 ?_|refine oW c3 ?_|refine oU c4 ?_|refine oW c4 ?_|refine oU c5 ?_|refine oW c5 ?_|simp only [seval,push_cast,↓reduceIte,↓bP_some,↓aP_true,reduceCtorEq,a]));exact z):P:=h a ⟨c1⟩ ⟨c2⟩ ⟨c3⟩ ⟨c4⟩ ⟨c5⟩ z
theorem Wf6 {P R A:Prop} {L:Lib} {k1 k2 k3 k4 k5 k6:Nat} {v1 v2 v3 v4 v5 v6:List V} {r1 r2 r3 r4 r5 r6:V} (a:A) (c1:VFn L k1 v1 r1) (c2:VFn L k2 v2 r2) (c3:VFn L k3 v3 r3) (c4:VFn L k4 v4 r4) (c5:VFn L k5 v5 r5) (c6:VFn L k6 v6 r6) (z:R) (h:A→Kw L k1 v1 r1→Kw L k2 v2 r2→Kw L k3 v3 r3→Kw L k4 v4 r4→Kw L k5 v5 r5→Kw L k6 v6 r6→R→P:=by intro a c1 c2 c3 c4 c5 c6 z;(repeat' (first|refine Z0 ?_|refine Z1 ?_|refine Z2 ?_|refine oU c1 ?_|refine oW c1 ?_|refine oU c2 ?_|refine oW c2 ?_|refine oU c3 ?_|refine oW c3 ?_|refine oU c4 ?_|refine oW c4 ?_|refine oU c5 ?_|refine oW c5 ?_|refine oU c6 ?_|refine oW c6 ?_|simp only [seval,push_cast,↓reduceIte,↓bP_some,↓aP_true,reduceCtorEq,a]));exact z):P:=h a ⟨c1⟩ ⟨c2⟩ ⟨c3⟩ ⟨c4⟩ ⟨c5⟩ ⟨c6⟩ z
theorem Wf8 {P R A:Prop} {L:Lib} {k1 k2 k3 k4 k5 k6 k7 k8:Nat} {v1 v2 v3 v4 v5 v6 v7 v8:List V} {r1 r2 r3 r4 r5 r6 r7 r8:V} (a:A) (c1:VFn L k1 v1 r1) (c2:VFn L k2 v2 r2) (c3:VFn L k3 v3 r3) (c4:VFn L k4 v4 r4) (c5:VFn L k5 v5 r5) (c6:VFn L k6 v6 r6) (c7:VFn L k7 v7 r7) (c8:VFn L k8 v8 r8) (z:R) (h:A→Kw L k1 v1 r1→Kw L k2 v2 r2→Kw L k3 v3 r3→Kw L k4 v4 r4→Kw L k5 v5 r5→Kw L k6 v6 r6→Kw L k7 v7 r7→Kw L k8 v8 r8→R→P:=by intro a c1 c2 c3 c4 c5 c6 c7 c8 z;(repeat' (first|refine Z0 ?_|refine Z1 ?_|refine Z2 ?_|refine oU c1 ?_|refine oW c1 ?_|refine oU c2 ?_|refine oW c2 ?_|refine oU c3 ?_|refine oW c3 ?_|refine oU c4 ?_|refine oW c4 ?_|refine oU c5 ?_|refine oW c5 ?_|refine oU c6 ?_|refine oW c6 ?_|refine oU c7 ?_|refine oW c7 ?_|refine oU c8 ?_|refine oW c8 ?_|simp only [seval,push_cast,↓reduceIte,↓bP_some,↓aP_true,reduceCtorEq,a]));exact z):P:=h a ⟨c1⟩ ⟨c2⟩ ⟨c3⟩ ⟨c4⟩ ⟨c5⟩ ⟨c6⟩ ⟨c7⟩ ⟨c8⟩ z
theorem Xn0 {P R:Prop} (z:R) (h:R→P:=by intro z;(repeat' (first|refine Z0 ?_|refine Z1 ?_|refine Z2 ?_|simp only [seval,push_cast,↓reduceIte,↓bP_some,↓aP_true,reduceCtorEq,List.map_nil,List.append_nil,List.length_nil,List.length_cons,ne_eq,not_true_eq_false,happ_eq,upds_nil,upds_cons,decide_true,decide_false,Int.lt_irrefl,Bool.not_true]));exact z):P:=h z
theorem Xn1 {P R:Prop} {L:Lib} {k1:Nat} {v1:List V} {r1:V} (c1:VFn L k1 v1 r1) (z:R) (h:Kw L k1 v1 r1→R→P:=by intro c1 z;(repeat' (first|refine Z0 ?_|refine Z1 ?_|refine Z2 ?_|refine oU c1 ?_|refine oW c1 ?_|simp only [seval,push_cast,↓reduceIte,↓bP_some,↓aP_true,reduceCtorEq,List.map_nil,List.append_nil,List.length_nil,List.length_cons,ne_eq,not_true_eq_false,happ_eq,upds_nil,upds_cons,decide_true,decide_false,Int.lt_irrefl,Bool.not_true]));exact z):P:=h ⟨c1⟩ z
theorem Xn2 {P R:Prop} {L:Lib} {k1 k2:Nat} {v1 v2:List V} {r1 r2:V} (c1:VFn L k1 v1 r1) (c2:VFn L k2 v2 r2) (z:R) (h:Kw L k1 v1 r1→Kw L k2 v2 r2→R→P:=by intro c1 c2 z;(repeat' (first|refine Z0 ?_|refine Z1 ?_|refine Z2 ?_|refine oU c1 ?_|refine oW c1 ?_|refine oU c2 ?_|refine oW c2 ?_|simp only [seval,push_cast,↓reduceIte,↓bP_some,↓aP_true,reduceCtorEq,List.map_nil,List.append_nil,List.length_nil,List.length_cons,ne_eq,not_true_eq_false,happ_eq,upds_nil,upds_cons,decide_true,decide_false,Int.lt_irrefl,Bool.not_true]));exact z):P:=h ⟨c1⟩ ⟨c2⟩ z
theorem Xf0 {P R A:Prop} (a:A) (z:R) (h:A→R→P:=by intro a z;(repeat' (first|refine Z0 ?_|refine Z1 ?_|refine Z2 ?_|simp only [seval,push_cast,↓reduceIte,↓bP_some,↓aP_true,reduceCtorEq,List.map_nil,List.append_nil,List.length_nil,List.length_cons,ne_eq,not_true_eq_false,happ_eq,upds_nil,upds_cons,decide_true,decide_false,Int.lt_irrefl,Bool.not_true,a]));exact z):P:=h a z
theorem Xf1 {P R A:Prop} {L:Lib} {k1:Nat} {v1:List V} {r1:V} (a:A) (c1:VFn L k1 v1 r1) (z:R) (h:A→Kw L k1 v1 r1→R→P:=by intro a c1 z;(repeat' (first|refine Z0 ?_|refine Z1 ?_|refine Z2 ?_|refine oU c1 ?_|refine oW c1 ?_|simp only [seval,push_cast,↓reduceIte,↓bP_some,↓aP_true,reduceCtorEq,List.map_nil,List.append_nil,List.length_nil,List.length_cons,ne_eq,not_true_eq_false,happ_eq,upds_nil,upds_cons,decide_true,decide_false,Int.lt_irrefl,Bool.not_true,a]));exact z):P:=h a ⟨c1⟩ z
theorem Xf2 {P R A:Prop} {L:Lib} {k1 k2:Nat} {v1 v2:List V} {r1 r2:V} (a:A) (c1:VFn L k1 v1 r1) (c2:VFn L k2 v2 r2) (z:R) (h:A→Kw L k1 v1 r1→Kw L k2 v2 r2→R→P:=by intro a c1 c2 z;(repeat' (first|refine Z0 ?_|refine Z1 ?_|refine Z2 ?_|refine oU c1 ?_|refine oW c1 ?_|refine oU c2 ?_|refine oW c2 ?_|simp only [seval,push_cast,↓reduceIte,↓bP_some,↓aP_true,reduceCtorEq,List.map_nil,List.append_nil,List.length_nil,List.length_cons,ne_eq,not_true_eq_false,happ_eq,upds_nil,upds_cons,decide_true,decide_false,Int.lt_irrefl,Bool.not_true,a]));exact z):P:=h a ⟨c1⟩ ⟨c2⟩ z
theorem Xf6 {P R A:Prop} {L:Lib} {k1 k2 k3 k4 k5 k6:Nat} {v1 v2 v3 v4 v5 v6:List V} {r1 r2 r3 r4 r5 r6:V} (a:A) (c1:VFn L k1 v1 r1) (c2:VFn L k2 v2 r2) (c3:VFn L k3 v3 r3) (c4:VFn L k4 v4 r4) (c5:VFn L k5 v5 r5) (c6:VFn L k6 v6 r6) (z:R) (h:A→Kw L k1 v1 r1→Kw L k2 v2 r2→Kw L k3 v3 r3→Kw L k4 v4 r4→Kw L k5 v5 r5→Kw L k6 v6 r6→R→P:=by intro a c1 c2 c3 c4 c5 c6 z;(repeat' (first|refine Z0 ?_|refine Z1 ?_|refine Z2 ?_|refine oU c1 ?_|refine oW c1 ?_|refine oU c2 ?_|refine oW c2 ?_|refine oU c3 ?_|refine oW c3 ?_|refine oU c4 ?_|refine oW c4 ?_|refine oU c5 ?_|refine oW c5 ?_|refine oU c6 ?_|refine oW c6 ?_|simp only [seval,push_cast,↓reduceIte,↓bP_some,↓aP_true,reduceCtorEq,List.map_nil,List.append_nil,List.length_nil,List.length_cons,ne_eq,not_true_eq_false,happ_eq,upds_nil,upds_cons,decide_true,decide_false,Int.lt_irrefl,Bool.not_true,a]));exact z):P:=h a ⟨c1⟩ ⟨c2⟩ ⟨c3⟩ ⟨c4⟩ ⟨c5⟩ ⟨c6⟩ z
end Go.Proofs.YtigdhgbkgfagiaaGreat
set_option maxHeartbeats 4000000
set_option linter.unusedSimpArgs false
namespace Go.Proofs.YtigdhgbkgfagiaaGreat
theorem opsP_frm {L:Lib} {l:List AI} {K:Env→Heap→Prop} {E:Env} {H:Heap} {d:Option Nat} {anc:List Nat} (src:List Nat) {c:ACallee} {args:List AOpd} {k:Nat} {vs vs':List V} {H0:Heap} {Post:V→Heap→Prop} (hv:callee L.G E.get c args=some (.fn k,vs)) (hn:nodupO (src.map some)=true) (hlt:(src.all fun a=>Nat.blt a H.length)=true) (hvs:vs.map (V.ren (sgOf H (src.map some) []))=vs') (hH:H.sh (src.map some) []=H0) (hf:AFn L (.fn k) vs' H0 Post) (h:∀r h',Post r h'→opsP L l K (E.put d (r.ren (outσ H.length src))) (H.back src h')):opsP L (⟨d,.call c args,none,anc⟩::l) K E H:=by
 show stepP L ⟨d,.call c args,none,anc⟩ (opsP L l K) E H
 unfold stepP AI.goes
 show CallP L E.get H c args _
 unfold CallP
 rw [hv]
 show AFn L (.fn k) vs H _
 refine AFn.frame (k':=.fn k) src [] rfl hn hlt ?_
 rw [hvs,hH]
 exact hf.mono fun r h' hp=>⟨rfl,h r h' hp⟩
theorem opsP_all {L:Lib} {l:List AI} {K:Env→Heap→Prop} {E:Env} {H:Heap} {d:Option Nat} {anc:List Nat} {c:ACallee} {args:List AOpd} {k:Nat} {vs:List V} {Post:V→Heap→Prop} (hv:callee L.G E.get c args=some (.fn k,vs)) (hf:AFn L (.fn k) vs H Post) (h:∀r h',Post r h'→opsP L l K (E.put d r) h'):opsP L (⟨d,.call c args,none,anc⟩::l) K E H:=by
 show stepP L ⟨d,.call c args,none,anc⟩ (opsP L l K) E H
 unfold stepP AI.goes
 show CallP L E.get H c args _
 unfold CallP
 rw [hv]
 show AFn L (.fn k) vs H _
 exact hf.mono h
theorem FnQ.at {F:AFunc} {n0:Nat} {P:V→Heap→Prop} {E:Env} {H:Heap} {r:V} (h:resV E.get H.get F.results=some r) (hP:P r H):FnQ F n0 P .ret E H:=by
 have:ResP F.results n0 P E H:=by
  unfold ResP
  rw [h]
  exact .inl hP
 exact this
theorem FnQ.sh {F:AFunc} {n0:Nat} {P:V→Heap→Prop} {E:Env} {H:Heap} {r0 r:V} {H1:Heap} (src:List (Option Nat)) (fz:List Nat) (ho:okSh n0 src=true) (h:resV E.get H.get F.results=some r0) (hr:r0.ren (sgOf H src fz)=r) (hH:H.sh src fz=H1) (hP:P r H1):FnQ F n0 P .ret E H:=by
 have:ResP F.results n0 P E H:=by
  unfold ResP
  rw [h]
  refine .inr ⟨src,fz,ho,?_⟩
  rw [hr,hH];exact hP
 exact this
theorem rel_nilcase {N:Nums} {w:World} {S:Nat→Prop} {β:Nat→Option Nat} {s:Nat} {c:Option Nat} {x:Value} (h:Rel N w S β (.lst s [] c) x):Rel N w S β (.lst 0 [] c) x∨Rel N w S β (.lst 1000003 [] c) x:=by
 cases h with
 | lst _ _ _ _ a cc b off ys hc hlc ha hn hr hy h hz=>
  by_cases e:a=none
  ·exact .inl (.lst β 0 [] c a cc b off ys hc hlc ha hn (fun i row h=>by simp at h) (fun i row j x h=>by simp at h) (fun i row j x h=>by simp at h) ⟨fun _ _=>e,fun h=>by simp at h⟩)
  ·exact .inr (.lst β 1000003 [] c a cc b off ys hc hlc ha hn (fun i row h=>by simp at h) (fun i row j x h=>by simp at h) (fun i row j x h=>by simp at h) ⟨fun h=>by simp at h,fun _ _=>e⟩)
theorem AFn.nilcase {L:Lib} {k:Tgt} {s:Nat} {c:Option Nat} {H:Heap} {Post:V→Heap→Prop} (h0:AFn L k [.lst 0 [] c] H Post) (h1:AFn L k [.lst 1000003 [] c] H Post):AFn L k [.lst s [] c] H Post:=by
 intro C hC A w β vs hA hd hh hg ha
 obtain ⟨hn,har⟩:=ha
 have hsz:vs.size=1:=hn
 have hr:=har 0 _ vs[0] rfl (by simp [hsz])
 have go:∀v,Rel C.N w (Imm A w β H.get) β v vs[0]→RArgs C w (Imm A w β H.get) β [v] vs:=fun v hv=>⟨hn,fun i u x hu hx=>by
  match i with
  | 0=>
   have hu:some v=some u:=hu
   cases hu
   rw [Array.getElem?_eq_getElem (by omega)] at hx
   cases hx
   exact hv
  | i+1=>simp at hu⟩
 rcases rel_nilcase hr with h|h
 ·exact h0 C hC A w β vs hA hd hh hg (go _ h)
 ·exact h1 C hC A w β vs hA hd hh hg (go _ h)
end Go.Proofs.YtigdhgbkgfagiaaGreat
