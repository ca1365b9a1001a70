/- AL: reasoning by simplification: one operation at a time. · AL: reasoning by simplification: memory, calls, ends. · AL: reasoning by simplification: the other operations. -/
import Derived.Test.YtigdhgbkgfagiaaGreatVA3
set_option linter.unusedVariables false
set_option linter.unusedSimpArgs false
namespace Go.Proofs.YtigdhgbkgfagiaaGreat
section
variable {L:Lib} {l:List AI} {K:Env→Heap→Prop} {E:Env} {H:Heap} {d:Option Nat} {anc:List Nat}
theorem Heap.app_v (H:Heap) (v:V) (nd:List Nat):H.app { v:=v,need:=nd }=H:=by simp [Heap.app,Heap.upds]
theorem opsP_nil:opsP L [] K E H↔K E H:=Iff.rfl
theorem opt_iff {o:Option Eff} {P:Eff→Prop}:(match o with|some e=>P e|none=>False)↔∃e,o=some e∧P e:=by cases o <;> simp
def AOp.odd:AOp→Bool
 | .call _ _|.mnext _=>true
 | _=>false
theorem opsP_eff {op:AOp} (hc:op.odd=false):opsP L (⟨d,op,none,anc⟩::l) K E H↔∃e,op.exec H.length H.get (opval L.G E.get)=some e∧(e.upd.all fun p=>Nat.blt p.1 H.length)=true∧opsP L l K (E.put d e.v) (H.app e):=by
 show stepP L ⟨d,op,none,anc⟩ (opsP L l K) E H↔_
 unfold stepP AI.goes
 dsimp only
 have key:∀op':AOp,(match AOp.exec H.length H.get (opval L.G E.get) op' with|some e=>(e.upd.all fun p=>Nat.blt p.1 H.length)=true∧opsP L l K (E.put d e.v) (H.app e)|none=>False)↔∃e,op'.exec H.length H.get (opval L.G E.get)=some e∧(e.upd.all fun p=>Nat.blt p.1 H.length)=true∧opsP L l K (E.put d e.v) (H.app e):=fun op'=>opt_iff
 cases op <;> first|exact key _|exact key (.alloc _)|exact key .no|exact opt_iff (P:=fun e=>(e.upd.all fun p=>Nat.blt p.1 H.length)=true∧opsP L l K (E.put d e.v) (H.app e))|(simp [AOp.odd] at hc;done)
theorem opsP_val {op:AOp} (hc:op.odd=false) {g:Option V} (hg:op.exec H.length H.get (opval L.G E.get)=g.bind fun v=>some ({ v:=v }:Eff)):opsP L (⟨d,op,none,anc⟩::l) K E H↔∃v,g=some v∧opsP L l K (E.put d v) H:=by
 rw [opsP_eff hc,hg]
 cases g with
 | none=>simp
 | some v=>simp [Heap.app_v]
theorem opsP_mov_iff {x:AOpd}:opsP L (⟨d,.mov x,none,anc⟩::l) K E H↔∃v,opval L.G E.get x=some v∧opsP L l K (E.put d v) H:=opsP_val rfl rfl
theorem opsP_pick_iff {c a b:AOpd}:opsP L (⟨d,.pick c a b,none,anc⟩::l) K E H↔∃t,opval L.G E.get c=some (.bool t)∧∃v,opval L.G E.get (if t then a else b)=some v∧opsP L l K (E.put d v) H:=by
 rw [opsP_eff rfl]
 show (∃e,((opval L.G E.get c).bind fun v=>match v with|.bool true=>(opval L.G E.get a).bind fun v=>some ({ v:=v }:Eff)|.bool false=>(opval L.G E.get b).bind fun v=>some ({ v:=v }:Eff)|_=>none)=some e∧_)↔_
 cases opval L.G E.get c with
 | none=>simp
 | some v=>
  cases v with
  | bool t=>
   cases t
   ·cases hb:opval L.G E.get b <;> simp [Heap.app_v,hb]
   ·cases ha:opval L.G E.get a <;> simp [Heap.app_v,ha]
  | _=>simp
theorem opsP_bin_iff {op:BinOp} {x y:AOpd}:opsP L (⟨d,.bin op x y,none,anc⟩::l) K E H↔∃a,opval L.G E.get x=some a∧∃b,opval L.G E.get y=some b∧∃v,binV op a b=some v∧opsP L l K (E.put d v) H:=by
 rw [opsP_val (g:=(opval L.G E.get x).bind fun a=>(opval L.G E.get y).bind fun b=>binV op a b) rfl]
 ·simp only [Option.bind_eq_some_iff]
  constructor
  ·rintro ⟨v,⟨a,ha,b,hb,hv⟩,h⟩;exact ⟨a,ha,b,hb,v,hv,h⟩
  ·rintro ⟨a,ha,b,hb,v,hv,h⟩;exact ⟨v,⟨a,ha,b,hb,hv⟩,h⟩
 ·show ((opval L.G E.get x).bind fun a=>(opval L.G E.get y).bind fun b=>(binV op a b).bind fun v=>some ({ v:=v }:Eff))=_
  cases opval L.G E.get x with
  | none=>rfl
  | some a=>cases opval L.G E.get y <;> rfl
theorem opsP_un_iff {op:UnOp} {x:AOpd}:opsP L (⟨d,.un op x,none,anc⟩::l) K E H↔∃a,opval L.G E.get x=some a∧∃v,unV op a=some v∧opsP L l K (E.put d v) H:=by
 rw [opsP_val (g:=(opval L.G E.get x).bind fun a=>unV op a) rfl]
 ·simp only [Option.bind_eq_some_iff]
  constructor
  ·rintro ⟨v,⟨a,ha,hv⟩,h⟩;exact ⟨a,ha,v,hv,h⟩
  ·rintro ⟨a,ha,v,hv,h⟩;exact ⟨v,⟨a,ha,hv⟩,h⟩
 ·show ((opval L.G E.get x).bind fun a=>(unV op a).bind fun v=>some ({ v:=v }:Eff))=_
  cases opval L.G E.get x <;> rfl
def bP {α:Type} (o:Option α) (f:α→Prop):Prop:=∃v,o=some v∧f v
@[congr] theorem bP_congr {α:Type} {o o':Option α} {f:α→Prop} (h:o=o'):bP o f=bP o' f:=by rw [h]
theorem bP_some {α:Type} {v:α} {f:α→Prop}:bP (some v) f=f v:=by simp [bP]
def aP (c P:Prop):Prop:=c∧P
@[congr] theorem aP_congr {c c' P:Prop} (h:c=c'):aP c P=aP c' P:=by rw [h]
theorem aP_true {P:Prop}:aP True P=P:=by simp [aP]
theorem opsP_goes {op:AOp} {t:Nat} {w b:Bool} (h:(⟨d,op,some (t,w),anc⟩:AI).goes E.get=some b):opsP L (⟨d,op,some (t,w),anc⟩::l) K E H=(if b then opsP L (⟨d,op,none,anc⟩::l) K E H else opsP L l K (E.put d (.tup [])) H):=by
 show stepP L ⟨d,op,some (t,w),anc⟩ (opsP L l K) E H=_
 unfold stepP
 rw [h]
 cases b <;> rfl
theorem opsP_gtt {op:AOp} {t:Nat} (h:E.get t=some (.bool true)):opsP L (⟨d,op,some (t,true),anc⟩::l) K E H=opsP L (⟨d,op,none,anc⟩::l) K E H:=opsP_goes (b:=true) (by unfold AI.goes;simp only [h];rfl)
theorem opsP_gff {op:AOp} {t:Nat} (h:E.get t=some (.bool false)):opsP L (⟨d,op,some (t,false),anc⟩::l) K E H=opsP L (⟨d,op,none,anc⟩::l) K E H:=opsP_goes (b:=true) (by unfold AI.goes;simp only [h];rfl)
theorem opsP_gtf {op:AOp} {t:Nat} (h:E.get t=some (.bool false)):opsP L (⟨d,op,some (t,true),anc⟩::l) K E H=opsP L l K (E.put d (.tup [])) H:=opsP_goes (b:=false) (by unfold AI.goes;simp only [h];rfl)
theorem opsP_gft {op:AOp} {t:Nat} (h:E.get t=some (.bool true)):opsP L (⟨d,op,some (t,false),anc⟩::l) K E H=opsP L l K (E.put d (.tup [])) H:=opsP_goes (b:=false) (by unfold AI.goes;simp only [h];rfl)
theorem opsP_gu {op:AOp} {t:Nat} {w:Bool} (h:E.get t=some (.tup [])):opsP L (⟨d,op,some (t,w),anc⟩::l) K E H=opsP L l K (E.put d (.tup [])) H:=opsP_goes (b:=false) (by unfold AI.goes;simp only [h])
theorem opsP_mov {x:AOpd}:opsP L (⟨d,.mov x,none,anc⟩::l) K E H=bP (opval L.G E.get x) fun v=>opsP L l K (E.put d v) H:=propext opsP_mov_iff
def boolQ:V→Option Bool
 | .bool b=>some b
 | _=>none
theorem boolQ_bool {b:Bool}:boolQ (.bool b)=some b:=rfl
def pickQ (t:Bool) (a b:AOpd):AOpd:=if t then a else b
theorem pickQ_t {a b:AOpd}:pickQ true a b=a:=rfl
theorem pickQ_f {a b:AOpd}:pickQ false a b=b:=rfl
theorem opsP_pick {c a b:AOpd}:opsP L (⟨d,.pick c a b,none,anc⟩::l) K E H=bP (opval L.G E.get c) fun x=>bP (boolQ x) fun t=>bP (opval L.G E.get (pickQ t a b)) fun v=>opsP L l K (E.put d v) H:=by
 refine propext (opsP_pick_iff.trans ?_)
 constructor
 ·rintro ⟨t,h1,v,h2,h3⟩;exact ⟨_,h1,t,rfl,v,h2,h3⟩
 ·rintro ⟨x,h1,t,h2,v,h3,h4⟩
  cases x <;> cases h2
  exact ⟨_,h1,v,h3,h4⟩
theorem opsP_bin {op:BinOp} {x y:AOpd}:opsP L (⟨d,.bin op x y,none,anc⟩::l) K E H=bP (opval L.G E.get x) fun a=>bP (opval L.G E.get y) fun b=>bP (binV op a b) fun v=>opsP L l K (E.put d v) H:=propext opsP_bin_iff
theorem opsP_un {op:UnOp} {x:AOpd}:opsP L (⟨d,.un op x,none,anc⟩::l) K E H=bP (opval L.G E.get x) fun a=>bP (unV op a) fun v=>opsP L l K (E.put d v) H:=propext opsP_un_iff
theorem binV_add {k:IntKind} {a b:Int}:binV .add (.int k a) (.int k b)=some (.int k (k.wrap (a+b))):=by simp [binV,binInt]
theorem binV_sub {k:IntKind} {a b:Int}:binV .sub (.int k a) (.int k b)=some (.int k (k.wrap (a - b))):=by simp [binV,binInt]
theorem binV_mul {k:IntKind} {a b:Int}:binV .mul (.int k a) (.int k b)=some (.int k (k.wrap (a*b))):=by simp [binV,binInt]
theorem binV_eql {k:IntKind} {a b:Int}:binV .eql (.int k a) (.int k b)=some (.bool (decide (a=b))):=by simp [binV,binInt];rfl
theorem binV_neq {k:IntKind} {a b:Int}:binV .neq (.int k a) (.int k b)=some (.bool (decide (a≠b))):=by
 simp only [binV,binInt,if_true,Option.some.injEq,V.bool.injEq]
 by_cases h:a=b <;> simp [h]
theorem binV_lss {k:IntKind} {a b:Int}:binV .lss (.int k a) (.int k b)=some (.bool (decide (a < b))):=by simp [binV,binInt]
theorem binV_leq {k:IntKind} {a b:Int}:binV .leq (.int k a) (.int k b)=some (.bool (decide (a≤b))):=by simp [binV,binInt]
theorem binV_gtr {k:IntKind} {a b:Int}:binV .gtr (.int k a) (.int k b)=some (.bool (decide (b < a))):=by simp [binV,binInt]
theorem binV_geq {k:IntKind} {a b:Int}:binV .geq (.int k a) (.int k b)=some (.bool (decide (b≤a))):=by simp [binV,binInt]
theorem unV_not {b:Bool}:unV .not (.bool b)=some (.bool (!b)):=rfl
theorem Env.get_nil (t:Nat):Env.get [] t=none:=rfl
theorem Env.get_cons (k t:Nat) (v:V) (r:Env):Env.get ((k,v)::r) t=if k=t then some v else Env.get r t:=by
 show (bif k == t then some v else Env.get r t)=_
 by_cases h:k=t
 ·simp [h]
 ·have hb:(k == t)=false:=by simp [h]
  rw [hb,if_neg h];rfl
theorem Env.set_nil (t:Nat) (v:V):Env.set [] t v=[(t,v)]:=rfl
theorem Env.set_cons (k t:Nat) (w v:V) (r:Env):Env.set ((k,w)::r) t v=if k=t then (t,v)::r else if t < k then (t,v)::(k,w)::r else (k,w)::Env.set r t v:=by
 show (bif k == t then (t,v)::r else bif t.blt k then (t,v)::(k,w)::r else (k,w)::Env.set r t v)=_
 by_cases h:k=t
 ·simp [h]
 ·have hb:(k == t)=false:=by simp [h]
  rw [hb,if_neg h,cond_false]
  by_cases h2:t < k
  ·rw [if_pos h2,show t.blt k=true from Nat.ble_eq_true_of_le h2];rfl
  ·rw [if_neg h2]
   have:t.blt k=false:=by
    cases hh:t.blt k with
    | false=>rfl
    | true=>exact absurd (Nat.le_of_ble_eq_true hh) h2
   rw [this];rfl
theorem Env.put_some (E:Env) (t:Nat) (v:V):Env.put E (some t) v=E.set t v:=rfl
theorem Env.put_none (E:Env) (v:V):Env.put E none v=E:=rfl
theorem Env.kill_nil (ts:List Nat):Env.kill [] ts=[]:=rfl
theorem Env.kill_cons (k:Nat) (v:V) (r:Env) (ts:List Nat):Env.kill ((k,v)::r) ts=if ts.contains k=true then Env.kill r ts else (k,v)::Env.kill r ts:=by
 unfold Env.kill
 rw [List.filter_cons]
 cases h:ts.contains k <;> simp
theorem opval_t (G:Nat→Option V) (E:Nat→Option V) (t:Nat):opval G E (.t t)=E t:=rfl
theorem opval_c (G:Nat→Option V) (E:Nat→Option V) (v:V):opval G E (.c v)=some v:=rfl
end
theorem AX.then_n {next:Env→Heap→Prop} {Q:Exit→Env→Heap→Prop} {E:Env} {H:Heap}:AX.then next Q .normal E H=next E H:=rfl
theorem AX.then_e {next:Env→Heap→Prop} {Q:Exit→Env→Heap→Prop} {E:Env} {H:Heap} {i:Nat}:AX.then next Q (.exit i) E H=Q (.exit i) E H:=rfl
theorem AX.then_r {next:Env→Heap→Prop} {Q:Exit→Env→Heap→Prop} {E:Env} {H:Heap}:AX.then next Q .ret E H=Q .ret E H:=rfl
theorem AX.inBlock_n {id:Nat} {Q:Exit→Env→Heap→Prop} {E:Env} {H:Heap}:AX.inBlock id Q .normal E H=Q .normal E H:=rfl
theorem AX.inBlock_r {id:Nat} {Q:Exit→Env→Heap→Prop} {E:Env} {H:Heap}:AX.inBlock id Q .ret E H=Q .ret E H:=rfl
attribute [push_cast] opsP_nil opsP_gu opsP_gtt opsP_gff opsP_gtf opsP_gft opsP_mov opsP_pick opsP_bin opsP_un binV_add binV_sub binV_mul binV_eql binV_neq binV_lss binV_leq binV_gtr binV_geq unV_not opval_t opval_c Env.get_nil Env.get_cons Env.set_nil Env.set_cons Env.put_some Env.put_none Env.kill_nil Env.kill_cons List.contains_cons List.contains_nil Bool.or_false Bool.or_true Bool.false_or Bool.true_or Bool.false_and Bool.true_and Bool.and_true Bool.and_false Bool.not_true Bool.not_false decide_true decide_false if_true if_false Option.some.injEq V.bool.injEq V.int.injEq boolQ_bool not_true_eq_false not_false_eq_true ne_eq decide_not pickQ_t pickQ_f Bool.false_eq_true Bool.true_eq_false Nat.zero_add
attribute [push_cast] AX.then_n AX.then_e AX.then_r AX.inBlock_n AX.inBlock_r
end Go.Proofs.YtigdhgbkgfagiaaGreat
namespace Go.Proofs.YtigdhgbkgfagiaaGreat
section
variable {L:Lib} {l:List AI} {K:Env→Heap→Prop} {E:Env} {H:Heap} {d:Option Nat} {anc:List Nat}
theorem Heap.app_new (H:Heap) (v:V) (nd:List Nat) (b:Blk):H.app { v:=v,need:=nd,new:=[b] }=H++[some b]:=by simp [Heap.app,Heap.upds]
theorem opsP_box_iff {x:AOpd}:opsP L (⟨d,.box x,none,anc⟩::l) K E H↔∃v,opval L.G E.get x=some v∧v.isVal=true∧opsP L l K (E.put d (.ptr H.length v.cells.length 0 0)) (H++[some (.arr v.cells.length [v.cells])]):=by
 rw [opsP_eff rfl]
 show (∃e,((opval L.G E.get x).bind fun v=>if v.isVal then some ({ v:=.ptr H.length v.cells.length 0 0,new:=[.arr v.cells.length [v.cells]] }:Eff) else none)=some e∧_∧_)↔_
 cases opval L.G E.get x with
 | none=>simp
 | some v=>by_cases h:v.isVal=true <;> simp [h,Heap.app_new]
theorem opsP_alloc_iff {z:List V}:opsP L (⟨d,.alloc z,none,anc⟩::l) K E H↔opsP L l K (E.put d (.ptr H.length z.length 0 0)) (H++[some (.arr z.length [z])]):=by
 rw [opsP_eff rfl]
 show (∃e,some ({ v:=.ptr H.length z.length 0 0,new:=[.arr z.length [z]] }:Eff)=some e∧_∧_)↔_
 simp [Heap.app_new]
def faQ (off:Nat):V→Option V
 | .ptr a size i o=>some (.ptr a size i (o+off))
 | .iptr size rows i o=>some (.iptr size rows i (o+off))
 | _=>none
theorem faQ_ptr {off a s i o:Nat}:faQ off (.ptr a s i o)=some (.ptr a s i (o+off)):=rfl
theorem faQ_iptr {off s i o:Nat} {rows:List (List V)}:faQ off (.iptr s rows i o)=some (.iptr s rows i (o+off)):=rfl
theorem opsP_fa_iff {x:AOpd} {off:Nat}:opsP L (⟨d,.fa x off,none,anc⟩::l) K E H↔∃a,opval L.G E.get x=some a∧∃v,faQ off a=some v∧opsP L l K (E.put d v) H:=by
 rw [opsP_val (g:=(opval L.G E.get x).bind (faQ off)) rfl]
 ·simp only [Option.bind_eq_some_iff]
  constructor
  ·rintro ⟨v,⟨a,ha,hv⟩,h⟩;exact ⟨a,ha,v,hv,h⟩
  ·rintro ⟨a,ha,v,hv,h⟩;exact ⟨v,⟨a,ha,hv⟩,h⟩
 ·show ((opval L.G E.get x).bind fun x=>match x with|.ptr a size i o=>some ({ v:=.ptr a size i (o+off) }:Eff)|.iptr size rows i o=>some { v:=.iptr size rows i (o+off) }|_=>none)=_
  cases opval L.G E.get x with
  | none=>rfl
  | some v=>cases v <;> rfl
def lenQ:V→Option V
 | .ref _ _ _ ln _=>some (.int .i64 ln)
 | .lst _ rows _=>some (.int .i64 rows.length)
 | _=>none
theorem lenQ_ref {a s o n:Nat} {c:Option Nat}:lenQ (.ref a s o n c)=some (.int .i64 n):=rfl
theorem lenQ_lst {s:Nat} {rows:List (List V)} {c:Option Nat}:lenQ (.lst s rows c)=some (.int .i64 rows.length):=rfl
theorem opsP_len_iff {x:AOpd}:opsP L (⟨d,.len x,none,anc⟩::l) K E H↔∃a,opval L.G E.get x=some a∧∃v,lenQ a=some v∧opsP L l K (E.put d v) H:=by
 rw [opsP_val (g:=(opval L.G E.get x).bind lenQ) rfl]
 ·simp only [Option.bind_eq_some_iff]
  constructor
  ·rintro ⟨v,⟨a,ha,hv⟩,h⟩;exact ⟨a,ha,v,hv,h⟩
  ·rintro ⟨a,ha,v,hv,h⟩;exact ⟨v,⟨a,ha,hv⟩,h⟩
 ·show ((opval L.G E.get x).bind fun x=>match x with|.ref _ _ _ ln _=>some ({ v:=.int .i64 ln }:Eff)|.lst _ rows _=>some { v:=.int .i64 rows.length }|_=>none)=_
  cases opval L.G E.get x with
  | none=>rfl
  | some v=>cases v <;> rfl
theorem nat?_ofNat {k:IntKind} {n:Nat}:V.nat? (.int k (n:Int))=some n:=by simp [V.nat?]
def iaQ (size:Nat):V→Nat→Option V
 | .ref a size' off ln _,i=>if size'=size∧i < ln then some (.ptr a size (off+i) 0) else none
 | .lst size' rows _,i=>if size'=size∧i < rows.length then some (.iptr size rows i 0) else none
 | _,_=>none
theorem iaQ_lst {size s i:Nat} {rows:List (List V)} {c:Option Nat}:iaQ size (.lst s rows c) i=if s=size∧i < rows.length then some (.iptr size rows i 0) else none:=rfl
theorem iaQ_ref {size s i a o n:Nat} {c:Option Nat}:iaQ size (.ref a s o n c) i=if s=size∧i < n then some (.ptr a size (o+i) 0) else none:=rfl
theorem opsP_ia_iff {size:Nat} {x y:AOpd}:opsP L (⟨d,.ia size x y,none,anc⟩::l) K E H↔∃a,opval L.G E.get x=some a∧∃b,opval L.G E.get y=some b∧∃i,b.nat?=some i∧∃v,iaQ size a i=some v∧opsP L l K (E.put d v) H:=by
 rw [opsP_val (g:=(opval L.G E.get x).bind fun a=>((opval L.G E.get y).bind V.nat?).bind fun i=>iaQ size a i) rfl]
 ·simp only [Option.bind_eq_some_iff]
  constructor
  ·rintro ⟨v,⟨a,ha,i,⟨b,hb,hi⟩,hv⟩,h⟩;exact ⟨a,ha,b,hb,i,hi,v,hv,h⟩
  ·rintro ⟨a,ha,b,hb,i,hi,v,hv,h⟩;exact ⟨v,⟨a,ha,i,⟨b,hb,hi⟩,hv⟩,h⟩
 ·show ((opval L.G E.get x).bind fun x=>((opval L.G E.get y).bind V.nat?).bind fun i=>match x with
    | .ref a size' off ln _=>if size'=size∧i < ln then some ({ v:=.ptr a size (off+i) 0 }:Eff) else none
    | .lst size' rows _=>if size'=size∧i < rows.length then some { v:=.iptr size rows i 0 } else none
    | _=>none)=_
  cases opval L.G E.get x with
  | none=>rfl
  | some v=>
   show (((opval L.G E.get y).bind V.nat?).bind _)=(((opval L.G E.get y).bind V.nat?).bind _).bind _
   cases (opval L.G E.get y).bind V.nat? with
   | none=>rfl
   | some i=>
    cases v with
    | ref a s o n c=>show (if _ then _ else _)=(if _ then _ else _:Option V).bind _;by_cases h:s=size∧i < n <;> simp [h]
    | lst s rows c=>show (if _ then _ else _)=(if _ then _ else _:Option V).bind _;by_cases h:s=size∧i < rows.length <;> simp [h]
    | _=>rfl
theorem opsP_iaa_iff {size ln:Nat} {x y:AOpd}:opsP L (⟨d,.iaa size ln x y,none,anc⟩::l) K E H↔∃a,opval L.G E.get x=some a∧∃b,opval L.G E.get y=some b∧∃i,b.nat?=some i∧i < ln∧∃v,faQ (i*size) a=some v∧opsP L l K (E.put d v) H:=by
 rw [opsP_val (g:=(opval L.G E.get x).bind fun a=>((opval L.G E.get y).bind V.nat?).bind fun i=>if i < ln then faQ (i*size) a else none) rfl]
 ·simp only [Option.bind_eq_some_iff,Option.ite_none_right_eq_some]
  constructor
  ·rintro ⟨v,⟨a,ha,i,⟨b,hb,hi⟩,hl,hv⟩,h⟩;exact ⟨a,ha,b,hb,i,hi,hl,v,hv,h⟩
  ·rintro ⟨a,ha,b,hb,i,hi,hl,v,hv,h⟩;exact ⟨v,⟨a,ha,i,⟨b,hb,hi⟩,hl,hv⟩,h⟩
 ·show ((opval L.G E.get x).bind fun x=>((opval L.G E.get y).bind V.nat?).bind fun i=>if i < ln then (match x with|.ptr a size' j o=>some ({ v:=.ptr a size' j (o+i*size) }:Eff)|.iptr size' rows j o=>some { v:=.iptr size' rows j (o+i*size) }|_=>none) else none)=_
  cases opval L.G E.get x with
  | none=>rfl
  | some v=>
   show (((opval L.G E.get y).bind V.nat?).bind _)=(((opval L.G E.get y).bind V.nat?).bind _).bind _
   cases (opval L.G E.get y).bind V.nat? with
   | none=>rfl
   | some i=>
    show (if i < ln then _ else _)=(if i < ln then _ else _:Option V).bind _
    by_cases h:i < ln
    ·rw [if_pos h,if_pos h];cases v <;> rfl
    ·rw [if_neg h,if_neg h];rfl
def loadB (b:Option Blk) (s i o n:Nat) (leaf:Bool):Option V:=match b.map (Blk.shape s) with|some (.arr s' rows)=>if s=s' then (rows[i]?).bind fun row=>takeCells row o n leaf else none|_=>none
def loadQ (get:Nat→Option Blk) (n:Nat) (leaf:Bool):V→Option V
 | .ptr a s i o=>loadB (get a) s i o n leaf
 | .iptr _ rows i o=>(rows[i]?).bind fun row=>takeCells row o n leaf
 | _=>none
theorem loadQ_iptr {get:Nat→Option Blk} {n s i o:Nat} {leaf:Bool} {rows:List (List V)}:loadQ get n leaf (.iptr s rows i o)=(rows[i]?).bind fun row=>takeCells row o n leaf:=rfl
theorem loadQ_ptr {get:Nat→Option Blk} {n a s i o:Nat} {leaf:Bool}:loadQ get n leaf (.ptr a s i o)=loadB (get a) s i o n leaf:=rfl
theorem shape_same {s:Nat} {rows:List (List V)}:Blk.shape s (.arr s rows)=.arr s rows:=by
 unfold Blk.shape
 dsimp only
 rw [if_pos rfl]
theorem loadB_arr {s i o n:Nat} {leaf:Bool} {rows:List (List V)}:loadB (some (.arr s rows)) s i o n leaf=(rows[i]?).bind fun row=>takeCells row o n leaf:=by
 unfold loadB
 simp only [Option.map_some,shape_same,if_true]
theorem loadV_loadQ {get:Nat→Option Blk} {k:Nat} {leaf:Bool} (a:V):∃nd,loadV (shG a.psz get) k leaf a=(loadQ get k leaf a).map fun v=>{ v:=v,need:=nd }:=by
 cases a with
 | ptr a s i o=>
  refine ⟨[a],?_⟩
  unfold loadV loadQ loadB shG
  dsimp only [V.psz]
  cases (get a).map (Blk.shape s) with
  | none=>rfl
  | some b=>
   cases b with
   | arr s' rows=>
    dsimp only
    by_cases h:s=s'
    ·rw [if_pos h,if_pos h]
     cases rows[i]? with
     | none=>rfl
     | some row=>cases hq:takeCells row o k leaf <;> simp [hq]
    ·rw [if_neg h,if_neg h];rfl
   | _=>rfl
 | iptr s rows i o=>
  refine ⟨[],?_⟩
  unfold loadV loadQ
  dsimp only
  cases rows[i]? with
  | none=>rfl
  | some row=>cases hq:takeCells row o k leaf <;> simp [hq]
 | _=>exact ⟨[],rfl⟩
theorem opsP_load_iff {k:Nat} {leaf:Bool} {p:AOpd}:opsP L (⟨d,.load k leaf p,none,anc⟩::l) K E H↔∃a,opval L.G E.get p=some a∧∃v,loadQ H.get k leaf a=some v∧opsP L l K (E.put d v) H:=by
 rw [opsP_eff rfl]
 show (∃e,(opval L.G E.get p).bind (loadV (shG (((opval L.G E.get p).map V.psz).getD 0) H.get) k leaf)=some e∧_∧_)↔_
 cases opval L.G E.get p with
 | none=>simp
 | some a=>
  show (∃e,loadV (shG a.psz H.get) k leaf a=some e∧_∧_)↔_
  obtain ⟨nd,hnd⟩:=loadV_loadQ (get:=H.get) (k:=k) (leaf:=leaf) a
  rw [hnd]
  cases hq:loadQ H.get k leaf a with
  | none=>simp [hq]
  | some v=>simp [hq,Heap.app_v]
def storeB (b:Option Blk) (s i o n:Nat) (x:V):Option (List (List V)):=match b.map (Blk.shape s) with|some (.arr s' rows)=>if s=s'∧x.cells.length=n∧x.isVal=true then (rows[i]?).bind fun row=>if o+n≤row.length then some (rows.set i (row.take o++x.cells++row.drop (o+n))) else none else none|_=>none
theorem storeB_arr {s i o n:Nat} {x:V} {rows:List (List V)}:storeB (some (.arr s rows)) s i o n x=if x.cells.length=n∧x.isVal=true then (rows[i]?).bind fun row=>if o+n≤row.length then some (rows.set i (row.take o++x.cells++row.drop (o+n))) else none else none:=by
 unfold storeB
 simp only [Option.map_some,shape_same,true_and]
def ptrQ:V→Option (Nat×Nat×Nat×Nat)
 | .ptr a s i o=>some (a,s,i,o)
 | _=>none
theorem ptrQ_ptr {a s i o:Nat}:ptrQ (.ptr a s i o)=some (a,s,i,o):=rfl
theorem opsP_store_iff {k:Nat} {p y:AOpd}:opsP L (⟨d,.store k p y,none,anc⟩::l) K E H↔∃a,opval L.G E.get p=some a∧∃x,opval L.G E.get y=some x∧∃q,ptrQ a=some q∧∃rows,storeB (H.get q.1) q.2.1 q.2.2.1 q.2.2.2 k x=some rows∧q.1 < H.length∧opsP L l K (E.put d (.tup [])) (H.set q.1 (some (.arr q.2.1 rows))):=by
 rw [opsP_eff rfl]
 show (∃e,((opval L.G E.get p).bind fun p'=>(opval L.G E.get y).bind fun x=>storeV (shG (((opval L.G E.get p).map V.psz).getD 0) H.get) k p' x)=some e∧_∧_)↔_
 cases opval L.G E.get p with
 | none=>simp
 | some a=>
  cases opval L.G E.get y with
  | none=>simp
  | some x=>
   show (∃e,storeV (shG a.psz H.get) k a x=some e∧_∧_)↔_
   simp only [Option.some.injEq,exists_eq_left']
   cases a with
   | ptr a s i o=>
    simp only [ptrQ,Option.some.injEq,exists_eq_left']
    unfold storeV storeB shG
    dsimp only [V.psz]
    cases (H.get a).map (Blk.shape s) with
    | none=>simp
    | some b=>
     cases b with
     | arr s' rows=>
      dsimp only
      by_cases h:s=s'∧x.cells.length=k∧x.isVal=true
      ·rw [if_pos h,if_pos h]
       cases rows[i]? with
       | none=>simp
       | some row=>
        simp only [Option.bind]
        by_cases h2:o+k≤row.length
        ·rw [if_pos h2,if_pos h2]
         simp only [Option.some.injEq,exists_eq_left']
         constructor
         ·rintro ⟨h3,h4⟩
          refine ⟨by simpa using h3,?_⟩
          simpa [Heap.app,Heap.upds] using h4
         ·rintro ⟨h3,h4⟩
          refine ⟨by simpa using h3,?_⟩
          simpa [Heap.app,Heap.upds] using h4
        ·rw [if_neg h2,if_neg h2];simp
      ·rw [if_neg h,if_neg h];simp
     | _=>simp
   | _=>simp [ptrQ,storeV]
theorem opsP_box {x:AOpd}:opsP L (⟨d,.box x,none,anc⟩::l) K E H=bP (opval L.G E.get x) fun v=>aP (v.isVal=true) (opsP L l K (E.put d (.ptr H.length v.cells.length 0 0)) (H++[some (.arr v.cells.length [v.cells])])):=propext opsP_box_iff
theorem opsP_alloc {z:List V}:opsP L (⟨d,.alloc z,none,anc⟩::l) K E H=opsP L l K (E.put d (.ptr H.length z.length 0 0)) (H++[some (.arr z.length [z])]):=propext opsP_alloc_iff
theorem opsP_fa {x:AOpd} {off:Nat}:opsP L (⟨d,.fa x off,none,anc⟩::l) K E H=bP (opval L.G E.get x) fun a=>bP (faQ off a) fun v=>opsP L l K (E.put d v) H:=propext opsP_fa_iff
theorem opsP_len {x:AOpd}:opsP L (⟨d,.len x,none,anc⟩::l) K E H=bP (opval L.G E.get x) fun a=>bP (lenQ a) fun v=>opsP L l K (E.put d v) H:=propext opsP_len_iff
theorem opsP_ia {size:Nat} {x y:AOpd}:opsP L (⟨d,.ia size x y,none,anc⟩::l) K E H=bP (opval L.G E.get x) fun a=>bP (opval L.G E.get y) fun b=>bP b.nat? fun i=>bP (iaQ size a i) fun v=>opsP L l K (E.put d v) H:=propext opsP_ia_iff
theorem opsP_iaa {size ln:Nat} {x y:AOpd}:opsP L (⟨d,.iaa size ln x y,none,anc⟩::l) K E H=bP (opval L.G E.get x) fun a=>bP (opval L.G E.get y) fun b=>bP b.nat? fun i=>aP (i < ln) (bP (faQ (i*size) a) fun v=>opsP L l K (E.put d v) H):=propext opsP_iaa_iff
theorem opsP_load {k:Nat} {leaf:Bool} {p:AOpd}:opsP L (⟨d,.load k leaf p,none,anc⟩::l) K E H=bP (opval L.G E.get p) fun a=>bP (loadQ H.get k leaf a) fun v=>opsP L l K (E.put d v) H:=propext opsP_load_iff
theorem opsP_store {k:Nat} {p y:AOpd}:opsP L (⟨d,.store k p y,none,anc⟩::l) K E H=bP (opval L.G E.get p) fun a=>bP (opval L.G E.get y) fun x=>bP (ptrQ a) fun q=>bP (storeB (H.get q.1) q.2.1 q.2.2.1 q.2.2.2 k x) fun rows=>aP (q.1 < H.length) (opsP L l K (E.put d (.tup [])) (H.set q.1 (some (.arr q.2.1 rows)))):=propext opsP_store_iff
theorem takeCells_one {row:List V} {o:Nat}:takeCells row o 1 true=row[o]?:=by
 unfold takeCells
 simp only [if_true]
 by_cases h:o < row.length
 ·rw [List.drop_eq_getElem_cons h,List.getElem?_eq_getElem h];rfl
 ·rw [List.drop_eq_nil_of_le (by omega),List.getElem?_eq_none (by omega)];rfl
theorem Heap.get_cons0 (o:Option Blk) (H:Heap):Heap.get (o::H) 0=o:=rfl
theorem Heap.get_consS (o:Option Blk) (H:Heap) (n:Nat):Heap.get (o::H) (n+1)=Heap.get H n:=rfl
mutual
theorem V.ren_closed (σ:Nat→Sg):∀{v:V},v.closed=true→v.ren σ=v
 | .agg cs,h=>by rw [V.ren,V.rens_closed σ h]
 | .tup cs,h=>by rw [V.ren,V.rens_closed σ h]
 | .fn f a b,h=>by
  simp only [V.closed,Bool.and_eq_true] at h
  rw [V.ren,V.rens_closed σ h.1,V.rens_closed σ h.2]
 | .iface t v,h=>by rw [V.ren,V.ren_closed σ (v:=v) h]
 | .ref ..,h=>by cases h
 | .ptr ..,h=>by cases h
 | .int ..,_=>rfl
 | .bool _,_=>rfl
 | .str _,_=>rfl
 | .lst ..,_=>rfl
 | .iptr ..,_=>rfl
 | .nilp,_=>rfl
 | .nilf,_=>rfl
 | .nili,_=>rfl
 | .bot,_=>rfl
 | .yld _,h=>by cases h
 | .mapp _,h=>by cases h
 | .nilm,_=>rfl
theorem V.rens_closed (σ:Nat→Sg):∀{l:List V},V.closeds l=true→V.rens σ l=l
 | [],_=>rfl
 | v::r,h=>by
  simp only [V.closeds,Bool.and_eq_true] at h
  rw [V.rens,V.ren_closed σ h.1,V.rens_closed σ h.2]
end
def VFn (L:Lib) (k:Nat) (vs:List V) (r:V):Prop:=V.closeds vs=true∧r.closed=true∧AFn L (.fn k) vs [] (fun r' H'=>r'=r∧H'=[])
theorem VFn.at {k:Nat} {vs:List V} {r:V} (h:VFn L k vs r) (H:Heap):AFn L (.fn k) vs H (fun r' H'=>r'=r∧H'=H):=by
 have e1:vs.map (V.ren (sgOf H ([].map some) []))=vs:=by rw [←V.rens_map];exact V.rens_closed _ h.1
 refine AFn.frame (k':=.fn k) [] [] rfl rfl rfl ?_
 rw [e1]
 refine AFn.mono (show AFn L (.fn k) vs [] _ from h.2.2) ?_
 rintro r' H' ⟨rfl,rfl⟩
 refine ⟨rfl,V.ren_closed _ h.2.1,?_⟩
 simp [Heap.back,Heap.upds]
theorem opsP_call {k:Nat} {args:List AOpd} {vs:List V} {r:V} (hv:evals (opval L.G E.get) args=some vs) (hf:VFn L k vs r) (h:opsP L l K (E.put d r) H):opsP L (⟨d,.call (.fn k) args,none,anc⟩::l) K E H:=by
 show stepP L ⟨d,.call (.fn k) args,none,anc⟩ (opsP L l K) E H
 unfold stepP AI.goes
 show CallP L E.get H (.fn k) args _
 unfold CallP callee
 rw [hv]
 show AFn L (.fn k) vs H _
 refine (hf.at H).mono ?_
 rintro r' H' ⟨rfl,rfl⟩
 exact h
theorem VFn.of_body {k:Nat} {F:AFunc} {vs:List V} {r:V} (hT:L.T k=some F) (hn:vs.length=F.nargs) (hvs:V.closeds vs=true) (hr:r.closed=true) (h:SWP L 0 F.ntmps F.body (FnQ F 0 (fun r' H'=>r'=r∧H'=[])) (argE vs 0) []):VFn L k vs r:=
 ⟨hvs,hr,AFn.of_body hT hn h⟩
theorem ResP.of {rs:List ARes} {E:Env} {H:Heap} {r:V} (h:resV E.get H.get rs=some r) (hc:r.closed=true):ResP rs 0 (fun r' H'=>r'=r∧H'=[]) E H:=by
 unfold ResP
 rw [h]
 exact .inr ⟨[],[],rfl,V.ren_closed _ hc,rfl⟩
theorem FnQ.ret {F:AFunc} {E:Env} {H:Heap} {r:V} (h:resV E.get H.get F.results=some r) (hc:r.closed=true):FnQ F 0 (fun r' H'=>r'=r∧H'=[]) .ret E H:=ResP.of h hc
theorem FnQ.normal {F:AFunc} {E:Env} {H:Heap} {r:V} (h:resV E.get H.get F.results=some r) (hc:r.closed=true):FnQ F 0 (fun r' H'=>r'=r∧H'=[]) .normal E H:=ResP.of h hc
theorem cells_agg {cs:List V}:V.cells (.agg cs)=cs:=rfl
theorem cells_int {k:IntKind} {n:Int}:V.cells (.int k n)=[.int k n]:=rfl
theorem cells_bool {b:Bool}:V.cells (.bool b)=[.bool b]:=rfl
theorem cells_str {b:List UInt8}:V.cells (.str b)=[.str b]:=rfl
theorem cells_lst {s:Nat} {r:List (List V)} {c:Option Nat}:V.cells (.lst s r c)=[.lst s r c]:=rfl
theorem cells_ref {a s o n:Nat} {c:Option Nat}:V.cells (.ref a s o n c)=[.ref a s o n c]:=rfl
theorem cells_ptr {a s i o:Nat}:V.cells (.ptr a s i o)=[.ptr a s i o]:=rfl
theorem takeCells_agg {row:List V} {o n:Nat}:takeCells row o n false=if ((row.drop o).take n).length=n then some (.agg ((row.drop o).take n)) else none:=rfl
end
theorem stepP.mono {L:Lib} {i:AI} {K K':Env→Heap→Prop} {E:Env} {H:Heap} (h:stepP L i K E H) (hk:∀E H,K E H→K' E H):stepP L i K' E H:=by
 obtain ⟨d,op,g,anc⟩:=i
 unfold stepP at h ⊢
 split at h
 ·exact hk _ _ h
 ·dsimp only at h ⊢
  split at h
  ·rename_i c args
   unfold CallP at h ⊢
   split at h
   ·rename_i hc
    exact AFn.mono h (fun r H' hr=>hk _ _ hr)
   ·exact h.elim
  ·rename_i x
   split at h
   ·exact fun e he=>⟨(h e he).1,hk _ _ (h e he).2⟩
   ·exact h.elim
  ·split at h
   ·exact ⟨h.1,hk _ _ h.2⟩
   ·exact h.elim
 ·exact h.elim
theorem opsP.mono {L:Lib} {K K':Env→Heap→Prop} (hk:∀E H,K E H→K' E H):∀{l:List AI} {E:Env} {H:Heap},opsP L l K E H→opsP L l K' E H
 | [],E,H,h=>hk _ _ h
 | i::l,E,H,h=>stepP.mono (K:=opsP L l K) (K':=opsP L l K') h (fun E H h=>opsP.mono hk h)
theorem opsP.out {L:Lib} {l:List AI} {ks:List Nat} {E E':Env} {H H':Heap} {Q:Exit→Env→Heap→Prop} (h:opsP L l (fun E1 H1=>E1.kill ks=E'∧H1=H') E H) (k:Q .normal E' H'):opsP L l (fun E1 H1=>Q .normal (E1.kill ks) H1) E H:=by
 refine opsP.mono (fun E1 H1 h1=>?_) h
 rw [h1.1,h1.2];exact k
theorem isVal_int {k:IntKind} {n:Int}:V.isVal (.int k n)=true:=rfl
theorem isVal_bool {b:Bool}:V.isVal (.bool b)=true:=rfl
theorem isVal_agg {cs:List V}:V.isVal (.agg cs)=true:=rfl
theorem isVal_lst {s:Nat} {r:List (List V)} {c:Option Nat}:V.isVal (.lst s r c)=true:=rfl
theorem isVal_str {b:List UInt8}:V.isVal (.str b)=true:=rfl
theorem isVal_ref {a s o n:Nat} {c:Option Nat}:V.isVal (.ref a s o n c)=true:=rfl
theorem isVal_ptr {a s i o:Nat}:V.isVal (.ptr a s i o)=true:=rfl
attribute [push_cast] opsP_box opsP_alloc opsP_fa opsP_len opsP_ia opsP_iaa opsP_load opsP_store faQ_ptr faQ_iptr lenQ_ref lenQ_lst iaQ_lst iaQ_ref nat?_ofNat loadQ_ptr loadQ_iptr loadB_arr storeB_arr ptrQ_ptr takeCells_one takeCells_agg cells_agg cells_int cells_bool cells_str cells_lst cells_ref cells_ptr Heap.get_cons0 Heap.get_consS List.length_cons List.length_nil List.cons_append List.nil_append List.append_nil List.getElem?_cons_zero List.getElem?_cons_succ List.set_cons_zero List.set_cons_succ List.drop_zero List.drop_succ_cons List.take_zero List.take_succ_cons List.drop_nil List.take_nil Option.bind_some Option.bind_none and_self and_true true_and Nat.add_zero Nat.lt_add_one
attribute [push_cast] isVal_int isVal_bool isVal_agg isVal_lst isVal_str isVal_ref isVal_ptr
end Go.Proofs.YtigdhgbkgfagiaaGreat
namespace Go.Proofs.YtigdhgbkgfagiaaGreat
section
variable {L:Lib} {l:List AI} {K:Env→Heap→Prop} {E:Env} {H:Heap} {d:Option Nat} {anc:List Nat}
theorem opsP_q {op:AOp} (hc:op.odd=false) {α:Type} {o:Option α} {g:α→Option V} (h:∀a,o=some a→∃nd,op.exec H.length H.get (opval L.G E.get)=(g a).map fun v=>({ v:=v,need:=nd }:Eff)) (hn:o=none→op.exec H.length H.get (opval L.G E.get)=none):opsP L (⟨d,op,none,anc⟩::l) K E H=bP o fun a=>bP (g a) fun v=>opsP L l K (E.put d v) H:=by
 refine propext ((opsP_eff hc).trans ?_)
 cases o with
 | none=>rw [hn rfl];simp [bP]
 | some a=>
  obtain ⟨nd,hnd⟩:=h a rfl
  rw [hnd,bP_some]
  cases g a with
  | none=>simp [bP]
  | some v=>simp [bP,Heap.app_v]
theorem opsP_nw {op:AOp} (hc:op.odd=false) {α:Type} {o:Option α} {g:α→V×Blk} (h:op.exec H.length H.get (opval L.G E.get)=o.map fun a=>({ v:=(g a).1,new:=[(g a).2] }:Eff)):opsP L (⟨d,op,none,anc⟩::l) K E H=bP o fun a=>opsP L l K (E.put d (g a).1) (H++[some (g a).2]):=by
 refine propext ((opsP_eff hc).trans ?_)
 rw [h]
 cases o with
 | none=>simp [bP]
 | some a=>simp [bP,Heap.app_new]
def convQ (k:IntKind):V→Option V
 | .int _ n=>some (.int k (k.wrap n))
 | _=>none
def sameQ:V→Option V
 | .str s=>some (.str s)
 | _=>none
def slenQ:V→Option V
 | .str s=>some (.int .i64 s.length)
 | _=>none
def capQ:V→Option V
 | .ref _ _ _ _ (some c)=>some (.int .i64 c)
 | .lst _ _ (some c)=>some (.int .i64 c)
 | _=>none
def nilchkQ:V→Option V
 | .ptr a s i o=>some (.ptr a s i o)
 | .iptr s r i o=>some (.iptr s r i o)
 | .fn a b c=>some (.fn a b c)
 | .iface t v=>some (.iface t v)
 | _=>none
def fldQ (off k:Nat) (leaf:Bool):V→Option V
 | .agg cs=>takeCells cs off k leaf
 | _=>none
def extQ (i:Nat):V→Option V
 | .tup vs=>vs[i]?
 | _=>none
def isnilQ (c:Nat) (neg:Bool) (x:V):Option V:=(isnilV c x).map fun b=>.bool (if neg then !b else b)
def strQ (get:Nat→Option Blk):V→Option V
 | .str _=>none
 | x=>(rowsOf 1 (shG 1 get) x).bind fun p=>(p.1.foldr unRow (some [])).map .str
theorem opsP_conv {k:IntKind} {x:AOpd}:opsP L (⟨d,.conv k x,none,anc⟩::l) K E H=bP (opval L.G E.get x) fun a=>bP (convQ k a) fun v=>opsP L l K (E.put d v) H:=
 opsP_q rfl (fun a h=>⟨[],by show (opval L.G E.get x).bind _=_;rw [h];cases a <;> rfl⟩) (fun h=>by show (opval L.G E.get x).bind _=_;rw [h];rfl)
theorem opsP_same {x:AOpd}:opsP L (⟨d,.same x,none,anc⟩::l) K E H=bP (opval L.G E.get x) fun a=>bP (sameQ a) fun v=>opsP L l K (E.put d v) H:=
 opsP_q rfl (fun a h=>⟨[],by show (opval L.G E.get x).bind _=_;rw [h];cases a <;> rfl⟩) (fun h=>by show (opval L.G E.get x).bind _=_;rw [h];rfl)
theorem opsP_slen {x:AOpd}:opsP L (⟨d,.slen x,none,anc⟩::l) K E H=bP (opval L.G E.get x) fun a=>bP (slenQ a) fun v=>opsP L l K (E.put d v) H:=
 opsP_q rfl (fun a h=>⟨[],by show (opval L.G E.get x).bind _=_;rw [h];cases a <;> rfl⟩) (fun h=>by show (opval L.G E.get x).bind _=_;rw [h];rfl)
theorem opsP_cap {x:AOpd}:opsP L (⟨d,.cap x,none,anc⟩::l) K E H=bP (opval L.G E.get x) fun a=>bP (capQ a) fun v=>opsP L l K (E.put d v) H:=
 opsP_q rfl (fun a h=>⟨[],by
  show (opval L.G E.get x).bind _=_
  rw [h]
  cases a with
  | ref _ _ _ _ c=>cases c <;> rfl
  | lst _ _ c=>cases c <;> rfl
  | _=>rfl⟩) (fun h=>by show (opval L.G E.get x).bind _=_;rw [h];rfl)
theorem opsP_nilchk {x:AOpd}:opsP L (⟨d,.nilchk x,none,anc⟩::l) K E H=bP (opval L.G E.get x) fun a=>bP (nilchkQ a) fun v=>opsP L l K (E.put d v) H:=
 opsP_q rfl (fun a h=>⟨[],by show (opval L.G E.get x).bind _=_;rw [h];cases a <;> rfl⟩) (fun h=>by show (opval L.G E.get x).bind _=_;rw [h];rfl)
theorem opsP_mkiface {t:Nat} {x:AOpd}:opsP L (⟨d,.mkiface t x,none,anc⟩::l) K E H=bP (opval L.G E.get x) fun a=>opsP L l K (E.put d (.iface t a)) H:=by
 rw [opsP_q (g:=fun a=>some (.iface t a)) rfl (o:=opval L.G E.get x) (fun a h=>⟨[],by show (opval L.G E.get x).bind _=_;rw [h];rfl⟩) (fun h=>by show (opval L.G E.get x).bind _=_;rw [h];rfl)]
 simp only [bP_some]
theorem opsP_fld {off k:Nat} {leaf:Bool} {x:AOpd}:opsP L (⟨d,.fld x off k leaf,none,anc⟩::l) K E H=bP (opval L.G E.get x) fun a=>bP (fldQ off k leaf a) fun v=>opsP L l K (E.put d v) H:=
 opsP_q rfl (fun a h=>⟨[],by
  show (opval L.G E.get x).bind _=_
  rw [h]
  cases a with
  | agg cs=>show (takeCells cs off k leaf).bind _=(takeCells cs off k leaf).map _;cases takeCells cs off k leaf <;> rfl
  | _=>rfl⟩) (fun h=>by show (opval L.G E.get x).bind _=_;rw [h];rfl)
theorem opsP_ext {i:Nat} {x:AOpd}:opsP L (⟨d,.ext x i,none,anc⟩::l) K E H=bP (opval L.G E.get x) fun a=>bP (extQ i a) fun v=>opsP L l K (E.put d v) H:=
 opsP_q rfl (fun a h=>⟨[],by
  show (opval L.G E.get x).bind _=_
  rw [h]
  cases a with
  | tup vs=>show (vs[i]?).bind _=(vs[i]?).map _;cases vs[i]? <;> rfl
  | _=>rfl⟩) (fun h=>by show (opval L.G E.get x).bind _=_;rw [h];rfl)
theorem opsP_isnil {c:Nat} {neg:Bool} {x:AOpd}:opsP L (⟨d,.isnil c neg x,none,anc⟩::l) K E H=bP (opval L.G E.get x) fun a=>bP (isnilQ c neg a) fun v=>opsP L l K (E.put d v) H:=
 opsP_q rfl (fun a h=>⟨[],by
  show (opval L.G E.get x).bind _=_
  rw [h]
  show (isnilV c a).bind _=((isnilV c a).map _).map _
  cases isnilV c a <;> rfl⟩) (fun h=>by show (opval L.G E.get x).bind _=_;rw [h];rfl)
theorem opsP_string {x:AOpd}:opsP L (⟨d,.string x,none,anc⟩::l) K E H=bP (opval L.G E.get x) fun a=>bP (strQ H.get a) fun v=>opsP L l K (E.put d v) H:=
 opsP_q rfl (fun a h=>by
  have key:(∀s,a≠.str s)→∃nd,AOp.exec H.length H.get (opval L.G E.get) (.string x)=(strQ H.get a).map fun v=>({ v:=v,need:=nd }:Eff):=by
   intro hns
   have e1:AOp.exec H.length H.get (opval L.G E.get) (.string x)=(rowsOf 1 (shG 1 H.get) a).bind fun p=>(p.1.foldr unRow (some [])).bind fun s=>some { v:=.str s,need:=p.2 }:=by
    show (opval L.G E.get x).bind _=_
    rw [h]
    cases a with
    | str s=>exact absurd rfl (hns s)
    | _=>rfl
   have e2:strQ H.get a=(rowsOf 1 (shG 1 H.get) a).bind fun p=>(p.1.foldr unRow (some [])).map .str:=by
    cases a with
    | str s=>exact absurd rfl (hns s)
    | _=>rfl
   rw [e1,e2]
   cases rowsOf 1 (shG 1 H.get) a with
   | none=>exact ⟨[],rfl⟩
   | some p=>
    refine ⟨p.2,?_⟩
    show (p.1.foldr unRow (some [])).bind _=((p.1.foldr unRow (some [])).map _).map _
    cases p.1.foldr unRow (some []) <;> rfl
  cases a with
  | str s=>exact ⟨[],by show (opval L.G E.get x).bind _=_;rw [h];rfl⟩
  | _=>exact key (fun s e=>by cases e)) (fun h=>by show (opval L.G E.get x).bind _=_;rw [h];rfl)
theorem opsP_q2 {op:AOp} (hc:op.odd=false) {x y:AOpd} {g:V→V→Option V} (h:op.exec H.length H.get (opval L.G E.get)=(opval L.G E.get x).bind fun a=>(opval L.G E.get y).bind fun b=>(g a b).bind fun v=>some ({ v:=v }:Eff)):opsP L (⟨d,op,none,anc⟩::l) K E H=bP (opval L.G E.get x) fun a=>bP (opval L.G E.get y) fun b=>bP (g a b) fun v=>opsP L l K (E.put d v) H:=by
 refine propext ((opsP_eff hc).trans ?_)
 rw [h]
 cases opval L.G E.get x with
 | none=>simp [bP]
 | some a=>
  cases opval L.G E.get y with
  | none=>simp [bP]
  | some b=>
   simp only [bP_some]
   cases hg:g a b with
   | none=>simp [bP,hg]
   | some v=>simp [bP,Heap.app_v,hg]
def beqQ (neg:Bool):V→V→Option V
 | .bool a,.bool b=>some (.bool (if neg then !(a == b) else a == b))
 | _,_=>none
def acmpQ (s:Shp) (neg:Bool) (x y:V):Option V:=(eqS s x y).map fun b=>.bool (if neg then !b else b)
def chrQ:V→V→Option V
 | .str s,b=>b.nat?.bind fun i=>(s[i]?).map fun b=>.int .u8 b.toNat
 | _,_=>none
def idxQ (size ln:Nat) (leaf:Bool):V→V→Option V
 | .agg cs,b=>b.nat?.bind fun i=>if i < ln then takeCells cs (i*size) size leaf else none
 | _,_=>none
theorem opsP_beq {neg:Bool} {x y:AOpd}:opsP L (⟨d,.beq neg x y,none,anc⟩::l) K E H=bP (opval L.G E.get x) fun a=>bP (opval L.G E.get y) fun b=>bP (beqQ neg a b) fun v=>opsP L l K (E.put d v) H:=
 opsP_q2 rfl (by
  show ((opval L.G E.get x).bind fun x=>(opval L.G E.get y).bind fun y=>match x,y with|.bool a,.bool b=>some ({ v:=.bool (if neg then !(a == b) else a == b) }:Eff)|_,_=>none)=_
  cases opval L.G E.get x with
  | none=>rfl
  | some a=>
   cases opval L.G E.get y with
   | none=>rfl
   | some b=>cases a <;> cases b <;> rfl)
theorem opsP_acmp {s:Shp} {neg:Bool} {x y:AOpd}:opsP L (⟨d,.acmp s neg x y,none,anc⟩::l) K E H=bP (opval L.G E.get x) fun a=>bP (opval L.G E.get y) fun b=>bP (acmpQ s neg a b) fun v=>opsP L l K (E.put d v) H:=
 opsP_q2 rfl (by
  show ((opval L.G E.get x).bind fun x=>(opval L.G E.get y).bind fun y=>(eqS s x y).bind fun b=>some ({ v:=.bool (if neg then !b else b) }:Eff))=_
  cases opval L.G E.get x with
  | none=>rfl
  | some a=>
   cases opval L.G E.get y with
   | none=>rfl
   | some b=>show (eqS s a b).bind _=((eqS s a b).map _).bind _;cases eqS s a b <;> rfl)
theorem opsP_chr {x y:AOpd}:opsP L (⟨d,.chr x y,none,anc⟩::l) K E H=bP (opval L.G E.get x) fun a=>bP (opval L.G E.get y) fun b=>bP (chrQ a b) fun v=>opsP L l K (E.put d v) H:=
 opsP_q2 rfl (by
  show ((opval L.G E.get x).bind fun x=>((opval L.G E.get y).bind V.nat?).bind fun i=>match x with|.str s=>(s[i]?).bind fun b=>some ({ v:=.int .u8 b.toNat }:Eff)|_=>none)=_
  cases opval L.G E.get x with
  | none=>rfl
  | some a=>
   cases opval L.G E.get y with
   | none=>rfl
   | some b=>
    show (b.nat?).bind _=(chrQ a b).bind _
    cases a with
    | str s=>
     show _=((b.nat?).bind _).bind _
     cases b.nat? with
     | none=>rfl
     | some i=>show (s[i]?).bind _=((s[i]?).map _).bind _;cases s[i]? <;> rfl
    | _=>cases b.nat? <;> rfl)
theorem opsP_idx {size ln:Nat} {leaf:Bool} {x y:AOpd}:opsP L (⟨d,.idx size ln leaf x y,none,anc⟩::l) K E H=bP (opval L.G E.get x) fun a=>bP (opval L.G E.get y) fun b=>bP (idxQ size ln leaf a b) fun v=>opsP L l K (E.put d v) H:=
 opsP_q2 rfl (by
  show ((opval L.G E.get x).bind fun x=>((opval L.G E.get y).bind V.nat?).bind fun i=>match x with|.agg cs=>if i < ln then (takeCells cs (i*size) size leaf).bind fun v=>some ({ v:=v }:Eff) else none|_=>none)=_
  cases opval L.G E.get x with
  | none=>rfl
  | some a=>
   cases opval L.G E.get y with
   | none=>rfl
   | some b=>
    show (b.nat?).bind _=(idxQ size ln leaf a b).bind _
    cases a with
    | agg cs=>
     show _=((b.nat?).bind _).bind _
     cases b.nat? with
     | none=>rfl
     | some i=>
      show (if i < ln then _ else _)=(if i < ln then _ else _:Option V).bind _
      by_cases h:i < ln
      ·rw [if_pos h,if_pos h]
      ·rw [if_neg h,if_neg h];rfl
    | _=>cases b.nat? <;> rfl)
theorem opsP_xfn {k:Nat} {x y:AOpd}:opsP L (⟨d,.xfn k x y,none,anc⟩::l) K E H=bP (opval L.G E.get x) fun a=>bP (opval L.G E.get y) fun b=>bP (xfnV k a b) fun v=>opsP L l K (E.put d v) H:=opsP_q2 rfl rfl
def minQ:List V→Option V
 | v::r=>foldInts (fun x y=>if y < x then y else x) v r
 | []=>none
def maxQ:List V→Option V
 | v::r=>foldInts (fun x y=>if y > x then y else x) v r
 | []=>none
theorem opsP_build {z:List V} {ps:List (Nat×Nat×AOpd)}:opsP L (⟨d,.build z ps,none,anc⟩::l) K E H=bP (evalParts (opval L.G E.get) ps) fun a=>bP ((fillCells z a).map .agg) fun v=>opsP L l K (E.put d v) H:=
 opsP_q rfl (fun a h=>⟨[],by show (evalParts (opval L.G E.get) ps).bind _=_;rw [h];show (fillCells z a).bind _=((fillCells z a).map _).map _;cases fillCells z a <;> rfl⟩) (fun h=>by show (evalParts (opval L.G E.get) ps).bind _=_;rw [h];rfl)
theorem opsP_mkfn {f:Nat} {a c:List AOpd}:opsP L (⟨d,.mkfn f a c,none,anc⟩::l) K E H=bP (evals (opval L.G E.get) a) fun fs=>bP ((evals (opval L.G E.get) c).map (.fn f fs)) fun v=>opsP L l K (E.put d v) H:=
 opsP_q rfl (fun fs h=>⟨[],by show (evals (opval L.G E.get) a).bind _=_;rw [h];show (evals (opval L.G E.get) c).bind _=((evals (opval L.G E.get) c).map _).map _;cases evals (opval L.G E.get) c <;> rfl⟩) (fun h=>by show (evals (opval L.G E.get) a).bind _=_;rw [h];rfl)
theorem opsP_min {xs:List AOpd}:opsP L (⟨d,.min xs,none,anc⟩::l) K E H=bP (evals (opval L.G E.get) xs) fun vs=>bP (minQ vs) fun v=>opsP L l K (E.put d v) H:=
 opsP_q rfl (fun a h=>⟨[],by
  show (evals (opval L.G E.get) xs).bind _=_
  rw [h]
  cases a with
  | nil=>rfl
  | cons v r=>show (foldInts _ v r).bind _=(foldInts _ v r).map _;cases foldInts (fun x y=>if y < x then y else x) v r <;> rfl⟩) (fun h=>by show (evals (opval L.G E.get) xs).bind _=_;rw [h];rfl)
theorem opsP_max {xs:List AOpd}:opsP L (⟨d,.max xs,none,anc⟩::l) K E H=bP (evals (opval L.G E.get) xs) fun vs=>bP (maxQ vs) fun v=>opsP L l K (E.put d v) H:=
 opsP_q rfl (fun a h=>⟨[],by
  show (evals (opval L.G E.get) xs).bind _=_
  rw [h]
  cases a with
  | nil=>rfl
  | cons v r=>show (foldInts _ v r).bind _=(foldInts _ v r).map _;cases foldInts (fun x y=>if y > x then y else x) v r <;> rfl⟩) (fun h=>by show (evals (opval L.G E.get) xs).bind _=_;rw [h];rfl)
theorem opsP_slice {size:Nat} {x:AOpd} {lo hi mx:Option AOpd}:opsP L (⟨d,.slice size x lo hi mx,none,anc⟩::l) K E H=bP (opval L.G E.get x) fun a=>bP (sliceV size a (optNat? (opval L.G E.get) lo) (optNat? (opval L.G E.get) hi) (optNat? (opval L.G E.get) mx)) fun v=>opsP L l K (E.put d v) H:=
 opsP_q rfl (fun a h=>⟨[],by show (opval L.G E.get x).bind _=_;rw [h];show (sliceV size a _ _ _).bind _=(sliceV size a _ _ _).map _;cases sliceV size a (optNat? (opval L.G E.get) lo) (optNat? (opval L.G E.get) hi) (optNat? (opval L.G E.get) mx) <;> rfl⟩) (fun h=>by show (opval L.G E.get x).bind _=_;rw [h];rfl)
def subQ (ρ:AOpd→Option V) (lo hi:Option AOpd):V→Option V
 | .str s=>(optNat ρ 0 lo).bind fun l=>(optNat ρ s.length hi).bind fun h=>if l≤h∧h≤s.length then some (.str ((s.drop l).take (h - l))) else none
 | _=>none
theorem opsP_substr {x:AOpd} {lo hi:Option AOpd}:opsP L (⟨d,.substr x lo hi,none,anc⟩::l) K E H=bP (opval L.G E.get x) fun a=>bP (subQ (opval L.G E.get) lo hi a) fun v=>opsP L l K (E.put d v) H:=
 opsP_q rfl (fun a h=>⟨[],by
  show (opval L.G E.get x).bind _=_
  rw [h]
  cases a with
  | str s=>
   show ((optNat (opval L.G E.get) 0 lo).bind fun l=>(optNat (opval L.G E.get) s.length hi).bind fun h=>if l≤h∧h≤s.length then some ({ v:=.str ((s.drop l).take (h - l)) }:Eff) else none)=((optNat (opval L.G E.get) 0 lo).bind _).map _
   cases optNat (opval L.G E.get) 0 lo with
   | none=>rfl
   | some a=>
    show ((optNat (opval L.G E.get) s.length hi).bind _)=((optNat (opval L.G E.get) s.length hi).bind _).map _
    cases optNat (opval L.G E.get) s.length hi with
    | none=>rfl
    | some b=>
     show (if a≤b∧b≤s.length then _ else _)=(if a≤b∧b≤s.length then _ else _:Option V).map _
     by_cases h:a≤b∧b≤s.length
     ·rw [if_pos h,if_pos h];rfl
     ·rw [if_neg h,if_neg h];rfl
  | _=>rfl⟩) (fun h=>by show (opval L.G E.get x).bind _=_;rw [h];rfl)
theorem opsP_bslice {size ln:Nat} {z:List V} {ps:List (Nat×AOpd)}:opsP L (⟨d,.bslice size z ln ps,none,anc⟩::l) K E H=bP (evalParts1 (opval L.G E.get) ps) fun a=>bP (fillRows size (List.replicate ln z) a) fun rows=>opsP L l K (E.put d (.ref H.length size 0 ln (some ln))) (H++[some (.arr size rows)]):=by
 rw [opsP_nw (o:=(evalParts1 (opval L.G E.get) ps).bind fun a=>fillRows size (List.replicate ln z) a) (g:=fun rows=>(.ref H.length size 0 ln (some ln),.arr size rows)) rfl]
 ·cases evalParts1 (opval L.G E.get) ps with
  | none=>simp [bP]
  | some a=>simp only [bP_some];rfl
 ·show (evalParts1 (opval L.G E.get) ps).bind _=_
  cases evalParts1 (opval L.G E.get) ps with
  | none=>rfl
  | some a=>show (fillRows size (List.replicate ln z) a).bind _=(fillRows size (List.replicate ln z) a).map _;cases fillRows size (List.replicate ln z) a <;> rfl
theorem opsP_mkslice {size bts:Nat} {z:List V} {x y:AOpd}:opsP L (⟨d,.mkslice size bts z x y,none,anc⟩::l) K E H=bP (opval L.G E.get x) fun a=>bP a.nat? fun n=>bP (opval L.G E.get y) fun b=>bP b.nat? fun c=>aP (n≤c∧c*bts≤140737488355328∧c < 9223372036854775808∧z.length=size) (opsP L l K (E.put d (.ref H.length size 0 n (some c))) (H++[some (.arr size (List.replicate c z))])):=by
 rw [opsP_nw (o:=((opval L.G E.get x).bind V.nat?).bind fun n=>((opval L.G E.get y).bind V.nat?).bind fun c=>if n≤c∧c*bts≤140737488355328∧c < 9223372036854775808∧z.length=size then some (n,c) else none) (g:=fun p=>(.ref H.length size 0 p.1 (some p.2),.arr size (List.replicate p.2 z))) rfl]
 ·cases opval L.G E.get x with
  | none=>simp [bP]
  | some a=>
   cases ha:a.nat? with
   | none=>simp [bP,ha]
   | some n=>
    cases opval L.G E.get y with
    | none=>simp [bP,ha]
    | some b=>
     cases hb:b.nat? with
     | none=>simp [bP,hb,ha]
     | some c=>
      simp only [bP_some,Option.bind_some,ha,hb]
      by_cases h:n≤c∧c*bts≤140737488355328∧c < 9223372036854775808∧z.length=size
      ·rw [if_pos h];simp [bP,aP,h]
      ·rw [if_neg h];simp only [bP,aP,h,false_and,eq_iff_iff,iff_false,reduceCtorEq,exists_const,not_false_eq_true]
 ·show (((opval L.G E.get x).bind V.nat?).bind _)=_
  cases (opval L.G E.get x).bind V.nat? with
  | none=>rfl
  | some n=>
   show (((opval L.G E.get y).bind V.nat?).bind _)=(((opval L.G E.get y).bind V.nat?).bind _).map _
   cases (opval L.G E.get y).bind V.nat? with
   | none=>rfl
   | some c=>
    show (if _ then _ else _)=(if _ then _ else _:Option (Nat×Nat)).map _
    by_cases h:n≤c∧c*bts≤140737488355328∧c < 9223372036854775808∧z.length=size
    ·rw [if_pos h,if_pos h];rfl
    ·rw [if_neg h,if_neg h];rfl
def bytesQ:V→Option (List UInt8)
 | .str s=>some s
 | _=>none
theorem opsP_bytes {x:AOpd}:opsP L (⟨d,.bytes x,none,anc⟩::l) K E H=bP (opval L.G E.get x) fun a=>bP (bytesQ a) fun s=>opsP L l K (E.put d (.ref H.length 1 0 s.length none)) (H++[some (.arr 1 (s.map fun b=>[.int .u8 b.toNat]))]):=by
 rw [opsP_nw (o:=(opval L.G E.get x).bind bytesQ) (g:=fun s=>(.ref H.length 1 0 s.length none,.arr 1 (s.map fun b=>[.int .u8 b.toNat]))) rfl]
 ·cases opval L.G E.get x with
  | none=>simp [bP]
  | some a=>simp only [bP_some,Option.bind_some]
 ·show (opval L.G E.get x).bind _=_
  cases opval L.G E.get x with
  | none=>rfl
  | some a=>cases a <;> rfl
theorem opsP_m {op:AOp} (hc:op.odd=false):opsP L (⟨d,op,none,anc⟩::l) K E H=bP (op.exec H.length H.get (opval L.G E.get)) fun e=>aP ((e.upd.all fun p=>Nat.blt p.1 H.length)=true) (opsP L l K (E.put d e.v) (H.app e)):=propext (opsP_eff hc)
theorem bind_bP {α β:Type} {o:Option α} {f:α→Option β} {P:β→Prop}:bP (o.bind f) P=bP o fun a=>bP (f a) P:=by
 cases o <;> simp [bP]
theorem opsP_append {size bts:Nat} {x y:AOpd}:opsP L (⟨d,.append size bts x y,none,anc⟩::l) K E H=bP (opval L.G E.get x) fun a=>bP (opval L.G E.get y) fun b=>bP (appendV H.length size bts (shG size H.get) a b) fun e=>aP ((e.upd.all fun p=>Nat.blt p.1 H.length)=true) (opsP L l K (E.put d e.v) (H.app e)):=by
 rw [opsP_m rfl]
 show bP ((opval L.G E.get x).bind fun x=>(opval L.G E.get y).bind fun y=>appendV H.length size bts (shG size H.get) x y) _=_
 simp only [bind_bP]
theorem opsP_copy {size:Nat} {x y:AOpd}:opsP L (⟨d,.copy size x y,none,anc⟩::l) K E H=bP (opval L.G E.get x) fun a=>bP (opval L.G E.get y) fun b=>bP (copyV size (shG size H.get) a b) fun e=>aP ((e.upd.all fun p=>Nat.blt p.1 H.length)=true) (opsP L l K (E.put d e.v) (H.app e)):=by
 rw [opsP_m rfl]
 show bP ((opval L.G E.get x).bind fun x=>(opval L.G E.get y).bind fun y=>copyV size (shG size H.get) x y) _=_
 simp only [bind_bP]
theorem opsP_clr {size:Nat} {z:List V} {x:AOpd}:opsP L (⟨d,.clr size z x,none,anc⟩::l) K E H=bP (opval L.G E.get x) fun a=>bP (clrV size z (shG size H.get) a) fun e=>aP ((e.upd.all fun p=>Nat.blt p.1 H.length)=true) (opsP L l K (E.put d e.v) (H.app e)):=by
 rw [opsP_m rfl]
 show bP ((opval L.G E.get x).bind fun x=>clrV size z (shG size H.get) x) _=_
 simp only [bind_bP]
theorem opsP_slicea {size m:Nat} {x:AOpd} {lo hi mx:Option AOpd}:opsP L (⟨d,.slicea size m x lo hi mx,none,anc⟩::l) K E H=bP (opval L.G E.get x) fun a=>bP (sliceaV (shG size H.get) size m a (optNat? (opval L.G E.get) lo) (optNat? (opval L.G E.get) hi) (optNat? (opval L.G E.get) mx)) fun e=>aP ((e.upd.all fun p=>Nat.blt p.1 H.length)=true) (opsP L l K (E.put d e.v) (H.app e)):=by
 rw [opsP_m rfl]
 show bP ((opval L.G E.get x).bind fun x=>sliceaV (shG size H.get) size m x (optNat? (opval L.G E.get) lo) (optNat? (opval L.G E.get) hi) (optNat? (opval L.G E.get) mx)) _=_
 simp only [bind_bP]
theorem opsP_mkmap {r:Option AOpd} (hr:r=none):opsP L (⟨d,.mkmap r,none,anc⟩::l) K E H=opsP L l K (E.put d (.mapp H.length)) (H++[some (.map [] [] 0)]):=by
 subst hr
 rw [opsP_nw (o:=some ()) (g:=fun _=>(.mapp H.length,.map [] [] 0)) rfl]
 ·simp only [bP_some]
 ·rfl
theorem opsP_mkmap0:opsP L (⟨d,.mkmap none,none,anc⟩::l) K E H=opsP L l K (E.put d (.mapp H.length)) (H++[some (.map [] [] 0)]):=opsP_mkmap rfl
theorem opsP_mget {kc:Nat} {z:V} {ok:Bool} {x y:AOpd}:opsP L (⟨d,.mget kc z ok x y,none,anc⟩::l) K E H=bP (opval L.G E.get x) fun a=>bP (opval L.G E.get y) fun b=>bP (mgetV (shG 0 H.get) kc z ok a b) fun e=>aP ((e.upd.all fun p=>Nat.blt p.1 H.length)=true) (opsP L l K (E.put d e.v) (H.app e)):=by
 rw [opsP_m rfl]
 show bP ((opval L.G E.get x).bind fun x=>(opval L.G E.get y).bind fun y=>mgetV (shG 0 H.get) kc z ok x y) _=_
 simp only [bind_bP]
theorem opsP_mset {kc:Nat} {x y u:AOpd}:opsP L (⟨d,.mset kc x y u,none,anc⟩::l) K E H=bP (opval L.G E.get x) fun a=>bP (opval L.G E.get y) fun b=>bP (opval L.G E.get u) fun c=>bP (msetV (shG 0 H.get) kc a b c) fun e=>aP ((e.upd.all fun p=>Nat.blt p.1 H.length)=true) (opsP L l K (E.put d e.v) (H.app e)):=by
 rw [opsP_m rfl]
 show bP ((opval L.G E.get x).bind fun x=>(opval L.G E.get y).bind fun y=>(opval L.G E.get u).bind fun u=>msetV (shG 0 H.get) kc x y u) _=_
 simp only [bind_bP]
theorem opsP_mdel {kc:Nat} {x y:AOpd}:opsP L (⟨d,.mdel kc x y,none,anc⟩::l) K E H=bP (opval L.G E.get x) fun a=>bP (opval L.G E.get y) fun b=>bP (mdelV (shG 0 H.get) kc a b) fun e=>aP ((e.upd.all fun p=>Nat.blt p.1 H.length)=true) (opsP L l K (E.put d e.v) (H.app e)):=by
 rw [opsP_m rfl]
 show bP ((opval L.G E.get x).bind fun x=>(opval L.G E.get y).bind fun y=>mdelV (shG 0 H.get) kc x y) _=_
 simp only [bind_bP]
theorem opsP_mrange {x:AOpd}:opsP L (⟨d,.mrange x,none,anc⟩::l) K E H=bP (opval L.G E.get x) fun a=>bP (mrangeV H.length (shG 0 H.get) a) fun e=>aP ((e.upd.all fun p=>Nat.blt p.1 H.length)=true) (opsP L l K (E.put d e.v) (H.app e)):=by
 rw [opsP_m rfl]
 show bP ((opval L.G E.get x).bind fun x=>mrangeV H.length (shG 0 H.get) x) _=_
 simp only [bind_bP]
theorem opsP_srange {x:AOpd}:opsP L (⟨d,.srange x,none,anc⟩::l) K E H=bP (opval L.G E.get x) fun a=>bP (srangeV H.length a) fun e=>aP ((e.upd.all fun p=>Nat.blt p.1 H.length)=true) (opsP L l K (E.put d e.v) (H.app e)):=by
 rw [opsP_m rfl]
 show bP ((opval L.G E.get x).bind fun x=>srangeV H.length x) _=_
 simp only [bind_bP]
theorem opsP_snext {x:AOpd}:opsP L (⟨d,.snext x,none,anc⟩::l) K E H=bP (opval L.G E.get x) fun a=>bP (snextV (shG 0 H.get) a) fun e=>aP ((e.upd.all fun p=>Nat.blt p.1 H.length)=true) (opsP L l K (E.put d e.v) (H.app e)):=by
 rw [opsP_m rfl]
 show bP ((opval L.G E.get x).bind fun x=>snextV (shG 0 H.get) x) _=_
 simp only [bind_bP]
theorem opsP_mentry {x:AOpd}:opsP L (⟨d,.mentry x,none,anc⟩::l) K E H=bP (opval L.G E.get x) fun a=>bP (mentryV (shG 0 H.get) a) fun e=>aP ((e.upd.all fun p=>Nat.blt p.1 H.length)=true) (opsP L l K (E.put d e.v) (H.app e)):=by
 rw [opsP_m rfl]
 show bP ((opval L.G E.get x).bind fun x=>mentryV (shG 0 H.get) x) _=_
 simp only [bind_bP]
theorem opsP_mapent {kc:Nat} {z:V} {x y:AOpd}:opsP L (⟨d,.mapent kc z x y,none,anc⟩::l) K E H=bP (opval L.G E.get x) fun a=>bP (opval L.G E.get y) fun b=>bP (mapentV (shG 0 H.get) kc z a b) fun e=>aP ((e.upd.all fun p=>Nat.blt p.1 H.length)=true) (opsP L l K (E.put d e.v) (H.app e)):=by
 rw [opsP_m rfl]
 show bP ((opval L.G E.get x).bind fun x=>(opval L.G E.get y).bind fun y=>mapentV (shG 0 H.get) kc z x y) _=_
 simp only [bind_bP]
theorem opsP_entstore {x y u:AOpd}:opsP L (⟨d,.entstore x y u,none,anc⟩::l) K E H=bP (opval L.G E.get x) fun a=>bP (opval L.G E.get y) fun b=>bP (opval L.G E.get u) fun c=>bP (entstoreV (shG 0 H.get) a b c) fun e=>aP ((e.upd.all fun p=>Nat.blt p.1 H.length)=true) (opsP L l K (E.put d e.v) (H.app e)):=by
 rw [opsP_m rfl]
 show bP ((opval L.G E.get x).bind fun x=>(opval L.G E.get y).bind fun y=>(opval L.G E.get u).bind fun u=>entstoreV (shG 0 H.get) x y u) _=_
 simp only [bind_bP]
theorem opsP_mnext {x:AOpd}:opsP L (⟨d,.mnext x,none,anc⟩::l) K E H=bP (opval L.G E.get x) fun a=>bP (nextE H.get a) fun l'=>∀e∈l',(e.upd.all fun p=>Nat.blt p.1 H.length)=true∧opsP L l K (E.put d e.v) (H.app e):=by
 show stepP L ⟨d,.mnext x,none,anc⟩ (opsP L l K) E H=_
 unfold stepP AI.goes bP
 dsimp only
 cases opval L.G E.get x with
 | none=>simp
 | some a=>
  simp only [Option.bind_some]
  cases hn:nextE H.get a <;> simp [hn]
def mlenQ (get:Nat→Option Blk) (m:V):Option V:=(mapOf (shG 0 get) m).map fun p=>.int .i64 p.1.length
theorem opsP_mlen {x:AOpd}:opsP L (⟨d,.mlen x,none,anc⟩::l) K E H=bP (opval L.G E.get x) fun a=>bP (mlenQ H.get a) fun v=>opsP L l K (E.put d v) H:=
 opsP_q rfl (fun a h=>by
  have e1:AOp.exec H.length H.get (opval L.G E.get) (.mlen x)=(mapOf (shG 0 H.get) a).bind fun p=>some { v:=.int .i64 p.1.length,need:=p.2 }:=by
   show (opval L.G E.get x).bind _=_
   rw [h];rfl
  rw [e1]
  unfold mlenQ
  cases mapOf (shG 0 H.get) a with
  | none=>exact ⟨[],rfl⟩
  | some p=>exact ⟨p.2,rfl⟩) (fun h=>by show (opval L.G E.get x).bind _=_;rw [h];rfl)
end
section
variable {ρ:AOpd→Option V} {g:Nat→Option Blk}
theorem convQ_int {k j:IntKind} {n:Int}:convQ k (.int j n)=some (.int k (k.wrap n)):=rfl
theorem sameQ_str {s:List UInt8}:sameQ (.str s)=some (.str s):=rfl
theorem slenQ_str {s:List UInt8}:slenQ (.str s)=some (.int .i64 s.length):=rfl
theorem capQ_ref {a s o n c:Nat}:capQ (.ref a s o n (some c))=some (.int .i64 c):=rfl
theorem capQ_lst {s c:Nat} {r:List (List V)}:capQ (.lst s r (some c))=some (.int .i64 c):=rfl
theorem nilchkQ_ptr {a s i o:Nat}:nilchkQ (.ptr a s i o)=some (.ptr a s i o):=rfl
theorem nilchkQ_iptr {s i o:Nat} {r:List (List V)}:nilchkQ (.iptr s r i o)=some (.iptr s r i o):=rfl
theorem nilchkQ_fn {a:Nat} {b c:List V}:nilchkQ (.fn a b c)=some (.fn a b c):=rfl
theorem nilchkQ_iface {t:Nat} {v:V}:nilchkQ (.iface t v)=some (.iface t v):=rfl
theorem fldQ_agg {off k:Nat} {leaf:Bool} {cs:List V}:fldQ off k leaf (.agg cs)=takeCells cs off k leaf:=rfl
theorem extQ_tup {i:Nat} {vs:List V}:extQ i (.tup vs)=vs[i]?:=rfl
theorem isnilQ_nill {c:Option Nat} {neg:Bool}:isnilQ 0 neg (.lst 0 [] c)=some (.bool (!neg)):=by cases neg <;> rfl
theorem isnilQ_non {c:Option Nat} {neg:Bool}:isnilQ 0 neg (.lst 1000003 [] c)=some (.bool neg):=by cases neg <;> rfl
theorem beqQ_t {a b:Bool}:beqQ false (.bool a) (.bool b)=some (.bool (a == b)):=rfl
theorem beqQ_n {a b:Bool}:beqQ true (.bool a) (.bool b)=some (.bool (!(a == b))):=rfl
theorem chrQ_str {s:List UInt8} {b:V}:chrQ (.str s) b=b.nat?.bind fun i=>(s[i]?).map fun b=>.int .u8 b.toNat:=rfl
theorem idxQ_agg {size ln:Nat} {leaf:Bool} {cs:List V} {b:V}:idxQ size ln leaf (.agg cs) b=b.nat?.bind fun i=>if i < ln then takeCells cs (i*size) size leaf else none:=rfl
theorem evals_nil:evals ρ []=some []:=rfl
theorem evals_cons {x:AOpd} {r:List AOpd}:evals ρ (x::r)=(ρ x).bind fun v=>(evals ρ r).bind fun vs=>some (v::vs):=rfl
theorem evalParts_nil:evalParts ρ []=some []:=rfl
theorem evalParts_cons {a b:Nat} {x:AOpd} {r:List (Nat×Nat×AOpd)}:evalParts ρ ((a,b,x)::r)=(ρ x).bind fun v=>(evalParts ρ r).bind fun vs=>some ((a,b,v)::vs):=rfl
theorem evalParts1_nil:evalParts1 ρ []=some []:=rfl
theorem evalParts1_cons {a:Nat} {x:AOpd} {r:List (Nat×AOpd)}:evalParts1 ρ ((a,x)::r)=(ρ x).bind fun v=>(evalParts1 ρ r).bind fun vs=>some ((a,v)::vs):=rfl
theorem fillCells_nil {cs:List V}:fillCells cs []=some cs:=rfl
theorem fillCells_cons {cs:List V} {off size:Nat} {v:V} {r:List (Nat×Nat×V)}:fillCells cs ((off,size,v)::r)=if v.cells.length=size∧v.isVal=true∧off+size≤cs.length then fillCells (cs.take off++v.cells++cs.drop (off+size)) r else none:=rfl
theorem fillRows_nil {size:Nat} {rows:List (List V)}:fillRows size rows []=some rows:=rfl
theorem fillRows_cons {size i:Nat} {rows:List (List V)} {v:V} {r:List (Nat×V)}:fillRows size rows ((i,v)::r)=if v.cells.length=size∧v.isVal=true∧i < rows.length then fillRows size (rows.set i v.cells) r else none:=rfl
theorem minQ_cons {v:V} {r:List V}:minQ (v::r)=foldInts (fun x y=>if y < x then y else x) v r:=rfl
theorem maxQ_cons {v:V} {r:List V}:maxQ (v::r)=foldInts (fun x y=>if y > x then y else x) v r:=rfl
theorem foldInts_nil {p:Int→Int→Int} {v:V}:foldInts p v []=some v:=by cases v <;> rfl
theorem foldInts_int {p:Int→Int→Int} {k:IntKind} {x y:Int} {r:List V}:foldInts p (.int k x) (.int k y::r)=foldInts p (.int k (p x y)) r:=by simp [foldInts]
theorem optNat?_none:optNat? ρ none=some none:=rfl
theorem optNat?_some {x:AOpd}:optNat? ρ (some x)=((ρ x).bind V.nat?).map some:=rfl
theorem optNat_none {d:Nat}:optNat ρ d none=some d:=rfl
theorem optNat_some {d:Nat} {x:AOpd}:optNat ρ d (some x)=(ρ x).bind V.nat?:=rfl
theorem subQ_str {lo hi:Option AOpd} {s:List UInt8}:subQ ρ lo hi (.str s)=(optNat ρ 0 lo).bind fun l=>(optNat ρ s.length hi).bind fun h=>if l≤h∧h≤s.length then some (.str ((s.drop l).take (h - l))) else none:=rfl
theorem bytesQ_str {s:List UInt8}:bytesQ (.str s)=some s:=rfl
theorem shG_eq {size a:Nat}:shG size g a=(g a).map (Blk.shape size):=rfl
theorem shape_map {size:Nat} {es:List (V×V)} {bs:List Nat} {clk:Nat}:Blk.shape size (.map es bs clk)=.map es bs clk:=rfl
theorem shape_iter {size:Nat} {m:Option Nat} {s:Nat} {l:List Nat} {c:Nat}:Blk.shape size (.iter m s l c)=.iter m s l c:=rfl
theorem shape_siter {size:Nat} {s:List UInt8} {p:Nat}:Blk.shape size (.siter s p)=.siter s p:=rfl
def rowsR (size b off len:Nat):Option Blk→Option (List (List V)×List Nat)
 | some (.arr s rows)=>if s=size∧off+len≤rows.length then some ((rows.drop off).take len,[b]) else none
 | _=>none
theorem rowsOf_ref {size b off len:Nat} {c:Option Nat}:rowsOf size g (.ref b size off len c)=rowsR size b off len (g b):=by
 unfold rowsOf rowsR
 dsimp only
 cases g b with
 | none=>rfl
 | some k=>cases k <;> simp
theorem rowsR_arr {size b off len:Nat} {rows:List (List V)}:rowsR size b off len (some (.arr size rows))=if off+len≤rows.length then some ((rows.drop off).take len,[b]) else none:=by simp [rowsR]
theorem rowsOf_nil {size s:Nat} {c:Option Nat}:rowsOf size g (.lst s [] c)=some ([],[]):=by simp [rowsOf]
def appR (n size bts a off len:Nat) (cap:Option Nat) (ys:List (List V)) (ny:List Nat):Option Blk→Option Eff
 | some (.arr s rows)=>
  if s=size∧off+len≤rows.length then
   match cap with
   | some c=>
    if len+ys.length≤c then
     if off+len+ys.length≤rows.length then
      some { v:=.ref a size off (len+ys.length) (some c),need:=a::ny,upd:=[(a,some (.arr size (over rows (off+len) ys)))] }
     else none
    else if roomOk (len+ys.length) bts then
     some { v:=.ref n size 0 (len+ys.length) none,need:=a::ny,new:=[.arr size ((rows.drop off).take len++ys)] }
    else none
   | none=>
    if off=0∧len=rows.length∧roomOk (len+ys.length) bts then
     some { v:=.ref n size 0 (len+ys.length) none,need:=a::ny,upd:=[(a,none)],new:=[.arr size (rows++ys)] }
    else none
  else none
 | _=>none
theorem appendV_ref {n size bts a off len:Nat} {cap:Option Nat} {y:V}:appendV n size bts g (.ref a size off len cap) y=(rowsOf size g y).bind fun p=>appR n size bts a off len cap p.1 p.2 (g a):=by
 unfold appendV
 cases rowsOf size g y with
 | none=>rfl
 | some p=>
  obtain ⟨ys,ny⟩:=p
  show (match g a with|some (.arr size'' rows)=>_|_=>none)=appR n size bts a off len cap ys ny (g a)
  unfold appR
  cases g a with
  | none=>rfl
  | some k=>
   cases k with
   | arr s rows=>simp only [true_and];rfl
   | _=>rfl
theorem appR_none {n size bts a len:Nat} {ys:List (List V)} {ny:List Nat} {rows:List (List V)}:appR n size bts a 0 len none ys ny (some (.arr size rows))=if len=rows.length∧roomOk (len+ys.length) bts=true then some { v:=.ref n size 0 (len+ys.length) none,need:=a::ny,upd:=[(a,none)],new:=[.arr size (rows++ys)] } else none:=by
 unfold appR
 simp only [true_and,Nat.zero_add]
 by_cases h:len=rows.length
 ·subst h;simp
 ·by_cases h2:len≤rows.length <;> simp [h,h2]
theorem appR_some {n size bts a off len c:Nat} {ys:List (List V)} {ny:List Nat} {rows:List (List V)}:appR n size bts a off len (some c) ys ny (some (.arr size rows))=if off+len≤rows.length then
        (if len+ys.length≤c then
         if off+len+ys.length≤rows.length then
          some { v:=.ref a size off (len+ys.length) (some c),need:=a::ny,upd:=[(a,some (.arr size (over rows (off+len) ys)))] }
         else none
        else if roomOk (len+ys.length) bts then
         some { v:=.ref n size 0 (len+ys.length) none,need:=a::ny,new:=[.arr size ((rows.drop off).take len++ys)] }
        else none) else none:=by simp [appR]
theorem appendV_lst {n size bts s c:Nat} {rows:List (List V)} {y:V}:appendV n size bts g (.lst s rows (some c)) y=(rowsOf size g y).bind fun p=>if p.1.length=0 then some { v:=.lst s rows (some c),need:=p.2 } else if c < rows.length+p.1.length∧(s=size∨rows.length=0)∧roomOk (rows.length+p.1.length) bts=true then some { v:=.ref n size 0 (rows.length+p.1.length) none,need:=p.2,new:=[.arr size (rows++p.1)] } else none:=rfl
theorem happ_eq {H:Heap} {v:V} {nd:List Nat} {u:List (Nat×Option Blk)} {nw:List Blk}:H.app { v:=v,need:=nd,upd:=u,new:=nw }=Heap.upds H u++nw.map some:=rfl
theorem upds_nil {H:Heap}:Heap.upds H []=H:=rfl
theorem upds_cons {H:Heap} {a:Nat} {k:Option Blk} {r:List (Nat×Option Blk)}:Heap.upds H ((a,k)::r)=(Heap.upds H r).set a k:=rfl
theorem blt_dec {a b:Nat}:Nat.blt a b=decide (a < b):=by
 by_cases h:a < b
 ·rw [decide_eq_true h];rwa [Nat.blt_eq]
 ·rw [decide_eq_false h]
  cases hb:Nat.blt a b with
  | false=>rfl
  | true=>exact absurd (by rwa [Nat.blt_eq] at hb) h
theorem sliceV_ref {size a off len:Nat} {cap:Option Nat} {lo hi:Option Nat}:sliceV size (.ref a size off len cap) (some lo) (some hi) (some none)=if lo.getD 0≤hi.getD len∧hi.getD len≤cap.getD len then some (.ref a size (off+lo.getD 0) (hi.getD len - lo.getD 0) (cap.map (· - lo.getD 0))) else none:=by simp [sliceV]
theorem sliceV_ref3 {size a off len m:Nat} {cap:Option Nat} {lo hi:Option Nat}:sliceV size (.ref a size off len cap) (some lo) (some hi) (some (some m))=if lo.getD 0≤hi.getD len∧hi.getD len≤m∧m≤cap.getD len then some (.ref a size (off+lo.getD 0) (hi.getD len - lo.getD 0) (some (m - lo.getD 0))) else none:=by simp [sliceV]
theorem getD_none' {d:Nat}:(none:Option Nat).getD d=d:=rfl
theorem getD_some' {d n:Nat}:(some n).getD d=n:=rfl
end
attribute [push_cast] opsP_mrange opsP_srange opsP_snext opsP_mentry opsP_mapent opsP_entstore opsP_mnext shape_iter shape_siter
attribute [push_cast] opsP_conv opsP_same opsP_slen opsP_cap opsP_nilchk opsP_mkiface opsP_fld opsP_ext opsP_isnil opsP_string opsP_beq opsP_acmp opsP_chr opsP_idx opsP_build opsP_mkfn opsP_min opsP_max opsP_slice opsP_substr opsP_bslice opsP_mkslice opsP_bytes opsP_append opsP_copy opsP_clr opsP_slicea opsP_mkmap0 opsP_mget opsP_mset opsP_mdel opsP_mlen opsP_xfn
attribute [push_cast] convQ_int sameQ_str slenQ_str capQ_ref capQ_lst nilchkQ_ptr nilchkQ_iptr nilchkQ_fn nilchkQ_iface fldQ_agg extQ_tup isnilQ_nill isnilQ_non beqQ_t beqQ_n chrQ_str idxQ_agg evals_nil evals_cons evalParts_nil evalParts_cons evalParts1_nil evalParts1_cons fillCells_nil fillCells_cons fillRows_nil fillRows_cons minQ_cons maxQ_cons foldInts_nil foldInts_int optNat?_none optNat?_some optNat_none optNat_some subQ_str bytesQ_str shG_eq shape_map rowsOf_ref rowsR_arr rowsOf_nil appendV_ref appR_none appR_some appendV_lst happ_eq upds_nil upds_cons blt_dec sliceV_ref sliceV_ref3 getD_none' getD_some' shape_same Option.map_some Option.map_none List.all_cons List.all_nil List.map_cons List.map_nil List.replicate_succ List.replicate_zero
end Go.Proofs.YtigdhgbkgfagiaaGreat
