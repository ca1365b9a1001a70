/- AL: every operation that the translation takes: what it yields, it yields in the model. · AL: what the operations yield, they yield in the model: maps. · AL: the theorem on one operation. · AL: an operation looks at its operands and at the blocks that it names, at nothing else. · AL: a block may be seen as rows of another size. · AL: states, functions' contracts, single operations in their place. -/
import Derived.Test.YtigdhgbkgfagiaaGreatVA0
import Derived.Lib.ConvBytes
import Derived.Lib.Strings
import Derived.MapKept
import Derived.Laws.StructEq
import Derived.Maps.RangeRun
import Derived.ChangeKeysEq
import Derived.RangeFuncLeaves
import Derived.OrdersIn
import Derived.TacticsIn
set_option linter.unusedVariables false
namespace Go.Proofs.YtigdhgbkgfagiaaGreat
open Go.Lib
section
variable {A:Nat→Prop} {C:Ctx} {w:World} {β:Nat→Option Nat} {h:Nat→Option Blk} {n:Nat} {ρ:AOpd→Option V} {a:Act}
theorem runs_val (hh:HeapR A C.N w β h) {e:Eff} {x:Value} (h1:e.upd=[]) (h2:e.new=[]) (hr:Rel C.N w (Imm A w β h) β e.v x):Runs A C w β h n e (pure (.value x)):=
 ⟨x,w,.inl rfl,effOk_same hh h1 h2 rfl rfl rfl rfl hr⟩
theorem toList_eq (s:ByteArray):s.toList=s.data.toList:=Lib.toList_data s
theorem str_rel {S:Nat→Prop} (l:List UInt8):Rel C.N w S β (.str l) (.string ⟨l.toArray⟩):=by
 have:=Rel.str (N:=C.N) (w:=w) (S:=S) β ⟨l.toArray⟩
 simpa using this
theorem bin_runs (hh:HeapR A C.N w β h) {op:BinOp} {t:TypeId} {x y:Operand} {vx vy v:V} {px py:Value} (hx:Rel C.N w (Imm A w β h) β vx px) (hy:Rel C.N w (Imm A w β h) β vy py) (hv:binV op vx vy=some v) :
    Runs A C w β h n { v } (do pure (.value (←(do eqGuard op t x y px py;binOp op t px py)))):=by
 cases hx with
 | int _ j p=>
  cases hy with
  | int _ k q=>
   have hg:eqGuard op t x y (.int j p) (.int k q)=pure ():=by cases op <;> rfl
   rw [hg]
   simp only [binV] at hv
   have key:∀{z:Value},(binOp op t (.int j p) (.int k q)).run C.T.P w=.ok z w→Rel C.N w (Imm A w β h) β v z→Runs A C w β h n { v } (do pure (.value (←(do pure ();binOp op t (.int j p) (.int k q))))):=fun {z} hz hr=>
    runs_same hh rfl rfl (by simpa using hz) hr
   split at hv
   ·unfold shiftInt at hv
    split at hv
    ·cases hv
    ·rename_i hq
     simp at hv
     subst hv
     exact key (by simp [binOp,Op.shift,hq] <;> rfl) (.int _ _ _)
   ·unfold shiftInt at hv
    split at hv
    ·cases hv
    ·rename_i hq
     simp at hv
     subst hv
     exact key (by simp [binOp,Op.shift,hq] <;> rfl) (.int _ _ _)
   ·rename_i n1 n2
    split at hv
    ·rename_i hjk
     subst hjk
     cases op <;> simp only [binInt,intBitsV,Option.some.injEq] at hv
     case quo=>
      split at hv
      ·cases hv
      ·rename_i hq
       simp only [Option.some.injEq] at hv;subst hv
       exact key (z:=.int j (j.wrap (p.tdiv q))) (by simp [binOp,Op.intDiv,hq]) (.int _ _ _)
     case rem=>
      split at hv
      ·cases hv
      ·rename_i hq
       simp only [Option.some.injEq] at hv;subst hv
       exact key (z:=.int j (p.tmod q)) (by simp [binOp,Op.intDiv,hq]) (.int _ _ _)
     case add=>subst hv;exact key (z:=.int j (j.wrap (p+q))) (by simp [binOp,Op.intArith]) (.int _ _ _)
     case sub=>subst hv;exact key (z:=.int j (j.wrap (p - q))) (by simp [binOp,Op.intArith]) (.int _ _ _)
     case mul=>subst hv;exact key (z:=.int j (j.wrap (p*q))) (by simp [binOp,Op.intArith]) (.int _ _ _)
     case eql=>subst hv;exact key (z:=.bool (p == q)) (by simp [binOp,Op.intCmp]) (.bool _ _)
     case neq=>subst hv;exact key (z:=.bool (p != q)) (by simp [binOp,Op.intCmp]) (.bool _ _)
     case lss=>subst hv;exact key (z:=.bool (decide (p < q))) (by simp [binOp,Op.intCmp]) (.bool _ _)
     case leq=>subst hv;exact key (z:=.bool (decide (p≤q))) (by simp [binOp,Op.intCmp]) (.bool _ _)
     case gtr=>subst hv;exact key (z:=.bool (decide (p > q))) (by simp [binOp,Op.intCmp]) (.bool _ _)
     case geq=>subst hv;exact key (z:=.bool (decide (p ≥ q))) (by simp [binOp,Op.intCmp]) (.bool _ _)
     all_goals first
      | (cases hv;done)
      | (subst hv;refine key (z:=.int j _) ?_ (.int _ _ _);simp only [binOp,ne_eq,not_true_eq_false,if_false];rfl)
    ·cases hv
  | _=>simp [binV] at hv
 | str _ s=>
  cases hy with
  | str _ q=>
   have hg:eqGuard op t x y (.string s) (.string q)=pure ():=by cases op <;> rfl
   rw [hg]
   simp only [binV] at hv
   have key:∀{z:Value},(binOp op t (.string s) (.string q)).run C.T.P w=.ok z w→Rel C.N w (Imm A w β h) β v z→Runs A C w β h n { v } (do pure (.value (←(do pure ();binOp op t (.string s) (.string q))))):=fun {z} hz hr=>
    runs_same hh rfl rfl (by simpa using hz) hr
   cases op <;> simp only [binStr] at hv
   case add=>
    split at hv
    ·rename_i hl
     simp only [Option.some.injEq] at hv
     subst hv
     refine key (z:=.string (s++q)) ?_ ?_
     ·have:¬(9223372036854775807 < ((s.size:Int)+(q.size:Int))):=by
        simp [strBig] at hl;omega
      simp [binOp,Op.stringOp,this]
     ·have:=Rel.str (N:=C.N) (w:=w) (S:=Imm A w β h) β (s++q)
      simpa using this
    ·cases hv
   all_goals first
    | (cases hv;done)
    | (simp only [Option.some.injEq] at hv;subst hv;refine key (z:=.bool _) ?_ (.bool _ _);simp [binOp,Op.stringOp,toList_eq])
  | _=>simp [binV] at hv
 | _=>simp [binV] at hv
theorem un_runs (hh:HeapR A C.N w β h) {op:UnOp} {vx v:V} {px:Value} (hx:Rel C.N w (Imm A w β h) β vx px) (hv:unV op vx=some v):Runs A C w β h n { v } (do pure (.value (←Op.unary op px))):=by
 cases hx with
 | int _ k m=>
  simp only [unV] at hv
  split at hv
  ·simp only [Option.some.injEq] at hv;subst hv
   exact runs_same hh rfl rfl (x:=.int k (k.wrap (0 - m))) (by simp [Op.unary,Op.intArith]) (.int _ _ _)
  ·simp only [intBitsV,Option.some.injEq] at hv;subst hv
   exact runs_same hh rfl rfl (x:=.int k _) (by simp only [Op.unary];rfl) (.int _ _ _)
  ·cases hv
 | bool _ b=>
  simp only [unV] at hv
  split at hv
  ·simp only [Option.some.injEq] at hv;subst hv
   exact runs_same hh rfl rfl (x:=.bool (!b)) (by simp [Op.unary]) (.bool _ _)
  ·cases hv
 | _=>simp [unV] at hv
theorem bytes_runs (hh:HeapR A C.N w β h) (hn:β n=none) (hhn:h n=none) {src dst e:TypeId} (hs:C.T.P.underlying src=some .string) (hd:C.T.P.underlying dst=some (.slice e)) (he:C.T.P.underlying e=some (.int .u8)) (s:ByteArray) :
    Runs A C w β h n { v:=.ref n 1 0 s.data.toList.length none,new:=[.arr 1 (s.data.toList.map fun b=>[.int .u8 b.toNat])] } (do pure (.value (←convert src dst (.string s)))):=by
 have hsrc:=src_of (C:=C) hh (size:=1) (.str β s) (rows:=s.data.toList.map fun b=>[V.int .u8 b.toNat]) (nd:=[]) (by simp [rowsOf])
 obtain ⟨ds,d1,d2,d3,d4,d5⟩:=hsrc
 have hf:=d5 s.data.toList.length w (by simp) (fun _ _=>rfl)
 have hfc:(Builtin.firstCells 1 s.data.toList.length (.string s)).run C.T.P w=.ok (s.data.map fun b=>Value.int .u8 b.toNat) w:=by
  simp [Builtin.firstCells,ByteArray.extract,ByteArray.copySlice]
 rw [hfc] at hf
 have hds:(s.data.map fun b=>Value.int .u8 b.toNat)=ds.toArray:=by
  injection hf with e1 _
  rw [e1,List.take_of_length_le (by rw [d1];simp)]
 have hh1:(bytesWorld w e s).heap=w.heap.push (.cells (bytesCells w e s) e ((bytesCells w e s).size,(bytesCells w e s).size+1)):=by
  apply Array.ext_getElem?
  intro j
  rw [Array.getElem?_push]
  by_cases h1:j=w.heap.size
  ·subst h1;rw [if_pos rfl];exact bytesWorld_at_new w e s
  ·rw [if_neg h1]
   by_cases h2:j < w.heap.size
   ·exact bytesWorld_at_old w e s j h2
   ·rw [Array.getElem?_eq_none (by rw [bytesWorld_size];omega),Array.getElem?_eq_none (by omega)]
 have hc:(bytesCells w e s)=(ds++[]++List.replicate (grownCap w s.size 0 e - s.size) (Value.int .u8 0)).toArray:=by
  unfold bytesCells
  rw [hds];simp
 have hge:=grownCap_ge w s.size 0 e
 have hg:=grid_append (rest:=List.replicate (grownCap w s.size 0 e - s.size) (Value.int .u8 0)) (ys:=[]) (ds:=[]) d2 d1 ⟨fun i row hi=>by simp at hi,by simp,fun i row j x hi=>by simp at hi⟩
 rw [List.append_nil,←hc] at hg
 refine runs_new (fz:=((bytesCells w e s).size,(bytesCells w e s).size+1)) hh hn hhn rfl rfl (Lib.run_convert_string_bytes w src dst e s hs hd he) hh1 rfl rfl rfl (fun o ho=>by simp;omega) hg (fun β' S hb=>?_)
 have hsl:s.data.toList.length=s.size:=by simp
 have hm:(0+grownCap w s.size 0 e)*1≤(bytesCells w e s).size:=by simp [bytesCells];omega
 have:=Rel.ref (N:=C.N) (w:=bytesWorld w e s) (S:=S) β' n 1 0 s.data.toList.length none w.heap.size (some ⟨w.heap.size,0,none⟩) (grownCap w s.size 0 e) hb (fun k hk=>by cases hk) (by rw [hsl];exact hge) (.inr (by simp)) (fun _=>⟨_,e,_,bytesWorld_at_new w e s,hm,fun k hk=>by simp;omega⟩) (by simp)
 rw [hsl] at this;simpa using this
theorem fold_push:∀(ns:List Int) (r:ByteArray),(ns.foldl (fun r n=>r.push (UInt8.ofNat n.toNat)) r).data.toList=r.data.toList++ns.map (fun n=>UInt8.ofNat n.toNat)
 | [],r=>by simp
 | m::ns,r=>by rw [List.foldl_cons,fold_push ns];simp [ByteArray.push]
theorem unRows_spec:∀{rows:List (List V)} {s:List UInt8},rows.foldr unRow (some [])=some s→∃ns:List Int,rows=ns.map (fun b=>[V.int .u8 b])∧s=ns.map (fun b=>UInt8.ofNat b.toNat)
 | [],s,h=>by simp at h;exact ⟨[],rfl,by simp [h]⟩
 | r::rows,s,h=>by
  rw [List.foldr_cons] at h
  unfold unRow at h
  rw [Option.bind_eq_some_iff] at h
  obtain ⟨s',h1,h2⟩:=h
  obtain ⟨ns,e1,e2⟩:=unRows_spec (rows:=rows) h1
  split at h2
  ·rename_i b
   simp only [Option.some.injEq] at h2
   exact ⟨b::ns,by simp [e1],by simp [←h2,e2]⟩
  ·cases h2
theorem string_runs (hh:HeapR A C.N w β h) {src dst e:TypeId} (hs:C.T.P.underlying src=some (.slice e)) (hd:C.T.P.underlying dst=some .string) (he:C.T.P.underlying e=some (.int .u8)) {x:V} {vx:Value} (hx:Rel C.N w (Imm A w β h) β x vx) (hsl:∃a l c,vx=.slice a l c) {rows:List (List V)} {nd:List Nat} {s:List UInt8}
    (hr:rowsOf 1 h x=some (rows,nd)) (hf:rows.foldr unRow (some [])=some s):Runs A C w β h n { v:=.str s,need:=nd } (do pure (.value (←convert src dst vx))):=by
 obtain ⟨ds,d1,d2,d3,d4,d5⟩:=src_of hh hx hr
 obtain ⟨ns,e1,e2⟩:=unRows_spec hf
 obtain ⟨xa,l,c,rfl⟩:=hsl
 have hl:l=rows.length:=by have:=d4 w;simp [Builtin.lenOf] at this;exact this
 subst hl
 have hds:ds=ns.map (Value.int .u8):=by
  apply List.ext_getElem?
  intro i
  by_cases hi:i < ns.length
  ·obtain ⟨y,q1,q2,q3⟩:=d2.2.2 i [V.int .u8 ns[i]] 0 (V.int .u8 ns[i]) (by rw [e1];simp [hi]) rfl
   cases q3
   simp at q1
   rw [q1];simp [hi]
  ·rw [List.getElem?_eq_none (by rw [d1,e1];simp;omega),List.getElem?_eq_none (by simp;omega)]
 have hf1:=d5 rows.length w (Nat.le_refl _) (fun _ _=>rfl)
 rw [List.take_of_length_le (by omega)] at hf1
 have hres:Rel C.N w (Imm A w β h) β (.str s) (.string ⟨s.toArray⟩):=str_rel s
 cases xa with
 | none=>
  simp [Builtin.firstCells] at hf1
  rw [hf1] at hds
  have:ns=[]:=by cases ns with
   | nil=>rfl
   | cons a b=>simp at hds
  subst this
  simp at e2
  subst e2
  refine runs_same hh rfl rfl (x:=.string .empty) ?_ ?_
  ·rw [run_convert_bytes_string w src dst e none rows.length c hs he hd];rfl
  ·have:=Rel.str (N:=C.N) (w:=w) (S:=Imm A w β h) β ByteArray.empty
   simpa using this
 | some ad=>
  have hlc:(loadCells ad rows.length).run C.T.P w=.ok (ns.map (Value.int .u8)).toArray w:=by
   have:=hf1
   simp only [Builtin.firstCells,Nat.mul_one] at this
   rw [this,hds]
  refine runs_same hh rfl rfl (x:=.string ⟨s.toArray⟩) ?_ hres
  rw [run_convert_bytes_string w src dst e (some ad) rows.length c hs he hd,run_bytesToString w ad rows.length c ns hlc]
  congr 2
  have:=fold_push ns ByteArray.empty
  have h2:(ns.foldl (fun r n=>r.push (UInt8.ofNat n.toNat)) ByteArray.empty).data.toList=s:=by rw [this,e2];simp
  cases hq:(ns.foldl (fun r n=>r.push (UInt8.ofNat n.toNat)) ByteArray.empty) with
  | mk d=>rw [hq] at h2;simp at h2;rw [←h2]
theorem evals_rel {S:Nat→Prop} (ho:OpdOk C w S β ρ a):∀{xs:List Operand} {ys:List AOpd} {vs:List V},C.T.opds xs=some ys→evals ρ ys=some vs→vs.length=xs.length∧∀(i:Nat) (v:V) (y:Value),vs[i]?=some v→(xs.map a.eval)[i]?=some y→Rel C.N w S β v y
 | [],ys,vs,h1,h2=>by
  simp [Tr.opds] at h1;subst h1
  simp [evals] at h2;subst h2
  exact ⟨rfl,fun i v y h=>by simp at h⟩
 | x::xs,ys,vs,h1,h2=>by
  simp only [Tr.opds,Option.bind_eq_some_iff] at h1
  obtain ⟨y,hy,l,hl,h1⟩:=h1
  simp only [Option.some.injEq] at h1
  subst h1
  simp only [evals,Option.bind_eq_some_iff] at h2
  obtain ⟨v,hv,vs',hvs,h2⟩:=h2
  simp only [Option.some.injEq] at h2
  subst h2
  obtain ⟨g1,g2⟩:=evals_rel ho hl hvs
  refine ⟨by simp [g1],fun i v' y' h3 h4=>?_⟩
  cases i with
  | zero=>simp at h3 h4;subst h3;subst h4;exact ho x y v hy hv
  | succ i=>simp at h3 h4;exact g2 i v' y' h3 (by simpa using h4)
theorem fold_ints {P:Program} (pick:Int→Int→Int) (f:Value→Value→Sem Value) (hf:∀(k:IntKind) (x y:Int),f (.int k x) (.int k y)=pure (.int k (pick x y))) {N:Nums} {S:Nat→Prop}:∀{vs:List V} {xs:List Value} {v v':V} {x:Value},vs.length=xs.length→(∀(i:Nat) (v:V) (y:Value),vs[i]?=some v→xs[i]?=some y→Rel N w S β v y)→Rel N w S β v x→
    foldInts pick v vs=some v'→∃x',(xs.foldlM f x).run P w=.ok x' w∧Rel N w S β v' x'
 | [],[],v,v',x,_,_,hx,h=>by simp [foldInts] at h;subst h;exact ⟨x,rfl,hx⟩
 | [],_::_,_,_,_,hl,_,_,_=>by simp at hl
 | _::_,[],_,_,_,hl,_,_,_=>by simp at hl
 | u::vs,y::xs,v,v',x,hl,hr,hx,h=>by
  have hy:=hr 0 u y rfl rfl
  cases hx with
  | int _ k p=>
   cases hy with
   | int _ k' q=>
    simp only [foldInts] at h
    split at h
    ·rename_i hk
     subst hk
     obtain ⟨x',h1,h2⟩:=fold_ints (P:=P) pick f hf (vs:=vs) (xs:=xs) (x:=.int k (pick p q)) (by simpa using hl) (fun i v y hv hy=>hr (i+1) v y hv hy) (.int _ _ _) h
     refine ⟨x',?_,h2⟩
     rw [List.foldlM_cons,hf,pure_bind];exact h1
    ·cases h
   | _=>simp [foldInts] at h
  | _=>simp [foldInts] at h
end
end Go.Proofs.YtigdhgbkgfagiaaGreat
namespace Go.Proofs.YtigdhgbkgfagiaaGreat
section
variable {A:Nat→Prop} {C:Ctx} {w:World} {β:Nat→Option Nat} {h:Nat→Option Blk} {n:Nat} {ρ:AOpd→Option V} {a:Act}
theorem run_getM {P:Program} {w:World} {b:Nat} {l:Array MapEntry} {clk:Nat} (hb:w.heap[b]?=some (.map l clk)):(getObj b).run P w=.ok (.map l clk) w:=by simp [getObj,Sem.run,hb]
theorem run_setM {P:Program} {w:World} {b:Nat} {l:Array MapEntry} {clk:Nat} (o:Obj) (hb:w.heap[b]?=some (.map l clk)):(setObj b o).run P w=.ok () { w with heap:=w.heap.setIfInBounds b o }:=by simp [setObj,Sem.run,hb]
def KDesc (c:Nat) (d:TypeDesc):Prop:=(c=0∧∃k,d=.int k)∨(c=1∧d=.string)∨(c=2∧d=.bool)
theorem sameK_lt {c:Nat} (h:c < 3) (x y:V):sameK c x y=sameK0 c x y:=if_pos h
theorem keyC_spec {T:Tr} {t:TypeId} {c:Nat} (hc:T.keyC0 t=some c):∃d,T.P.underlying t=some d∧KDesc c d:=by
 unfold Tr.keyC0 at hc
 split at hc
 ·rename_i k hu;simp only [Option.some.injEq] at hc;exact ⟨_,hu,.inl ⟨hc.symm,k,rfl⟩⟩
 ·rename_i hu;simp only [Option.some.injEq] at hc;exact ⟨_,hu,.inr (.inl ⟨hc.symm,rfl⟩)⟩
 ·rename_i hu;simp only [Option.some.injEq] at hc;exact ⟨_,hu,.inr (.inr ⟨hc.symm,rfl⟩)⟩
 ·cases hc
theorem run_checkKey {P:Program} {t:TypeId} {c:Nat} {d:TypeDesc} (hu:P.underlying t=some d) (hd:KDesc c d) (b:Bool) (v:Value) (m:Nat) (w:World):(Instr.checkKey b (m+1) t v).run P w=.ok () w:=by
 unfold Instr.checkKey
 rw [Sem.run_bind,run_underlying hu w]
 rcases hd with ⟨_,k,rfl⟩|⟨_,rfl⟩|⟨_,rfl⟩ <;> simp [Result.andThen_ok]
theorem bytes_eq (s t:ByteArray):(s == t)=(s.data.toList == t.data.toList):=by rw [beq_toListBytes,toList_eq,toList_eq]
theorem same_rel {N:Nums} {S:Nat→Prop} {c:Nat} {d:TypeDesc} (hd:KDesc c d) {k k':V} {y y':Value} (hk:Rel N w S β k y) (hk':Rel N w S β k' y') {b:Bool} (hs:sameK0 c k k'=some b) (m:Nat) :
    Instr.sameNow d y y'=some b∧(b=true→Instr.sameBits m y' y=true):=by
 unfold sameK0 at hs
 split at hs
 ·rename_i j p k2 q
  split at hs
  ·rename_i hj
   subst hj
   simp only [Option.some.injEq] at hs
   cases hk;cases hk'
   rcases hd with ⟨_,k,rfl⟩|⟨h0,_⟩|⟨h0,_⟩
   ·refine ⟨by simp [Instr.sameNow,hs],fun hb=>?_⟩
    subst hb
    have:p=q:=by simpa using hs
    subst this
    cases m <;> simp [Instr.sameBits]
   ·cases h0
   ·cases h0
  ·cases hs
 ·rename_i p q
  simp only [Option.some.injEq] at hs
  cases hk with
  | str _ s=>
   cases hk' with
   | str _ s'=>
    rcases hd with ⟨h0,_⟩|⟨_,rfl⟩|⟨h0,_⟩
    ·cases h0
    ·have e:=bytes_eq s s'
     refine ⟨by simp only [Instr.sameNow,e,hs],fun hb=>?_⟩
     subst hb
     have e2:=eq_of_beq hs
     cases m <;> simp only [Instr.sameBits,bytes_eq,e2,BEq.rfl]
    ·cases h0
 ·rename_i p q
  simp only [Option.some.injEq] at hs
  cases hk;cases hk'
  rcases hd with ⟨h0,_⟩|⟨h0,_⟩|⟨_,rfl⟩
  ·cases h0
  ·cases h0
  ·refine ⟨by simp [Instr.sameNow,hs],fun hb=>?_⟩
   subst hb
   have:p=q:=by simpa using hs
   subst this
   cases m <;> simp [Instr.sameBits]
 ·cases hs
theorem KDesc.lt {c:Nat} {d:TypeDesc} (hd:KDesc c d):c < 3:=by rcases hd with ⟨h,_⟩|⟨h,_⟩|⟨h,_⟩ <;> omega
theorem findNow_rel {N:Nums} {S:Nat→Prop} {c:Nat} {d:TypeDesc} (hd:KDesc c d) {k:V} {y:Value} (hk:Rel N w S β k y):∀(es:List (V×V)) (l:List MapEntry) (i:Nat) (r:Option Nat),l.length=es.length→
    (∀(j:Nat) (p:V×V) (e:MapEntry),es[j]?=some p→l[j]?=some e→Rel N w S β p.1 e.key)→findK c k es i=some r→
    (r=none∧Instr.findNow d y l i=some none)∨∃(j:Nat) (p:V×V) (e:MapEntry),r=some (i+j)∧es[j]?=some p∧l[j]?=some e∧Instr.findNow d y l i=some (some (i+j,e.val))∧Instr.sameBits 10000 e.key y=true
 | [],l,i,r,hl,hr,hf=>by
  simp [findK] at hf
  have:l=[]:=by cases l <;> simp_all
  subst this
  exact .inl ⟨hf.symm,rfl⟩
 | p::es,l,i,r,hl,hr,hf=>by
  cases l with
  | nil=>simp at hl
  | cons e l=>
   have hke:=hr 0 p e rfl rfl
   unfold findK at hf
   unfold Instr.findNow
   split at hf
   ·rename_i hs
    simp only [Option.some.injEq] at hf
    obtain ⟨h1,h2⟩:=same_rel hd hk hke (by rw [←sameK_lt hd.lt];exact hs) 10000
    rw [h1]
    exact .inr ⟨0,p,e,by simp [hf],rfl,rfl,by simp,h2 rfl⟩
   ·rename_i hs
    obtain ⟨h1,h2⟩:=same_rel hd hk hke (by rw [←sameK_lt hd.lt];exact hs) 10000
    rw [h1]
    rcases findNow_rel hd hk es l (i+1) r (by simpa using hl) (fun j p e h1 h2=>hr (j+1) p e (by simpa using h1) (by simpa using h2)) hf with ⟨h3,h4⟩|⟨j,p',e',h3,h4,h5,h6,h7⟩
    ·exact .inl ⟨h3,h4⟩
    ·exact .inr ⟨j+1,p',e',by rw [h3];congr 1;omega,by simpa using h4,by simpa using h5,by rw [show i+(j+1)=i+1+j by omega];exact h6,h7⟩
   ·cases hf
theorem run_findKey {P:Program} {kt:TypeId} {d:TypeDesc} (hu:P.underlying kt=some d) {y:Value} {l:List MapEntry} {q:Option (Nat×Value)} (hf:Instr.findNow d y l 0=some q) (w:World):(Instr.findKey kt y l).run P w=.ok q w:=by
 unfold Instr.findKey
 rw [Sem.run_bind,run_underlying hu w,Result.andThen_ok,hf]
 rfl
theorem leaf_runs {S:Nat→Prop} {t:TypeId} {c:Nat} (hc:C.T.keyC0 t=some c) {x y:V} {X Y:Value} (hx:Rel C.N w S β x X) (hy:Rel C.N w S β y Y) {b:Bool} (hs:sameK0 c x y=some b) (d:Nat):(Op.equalIn (d+1) t X Y).run C.T.P w=.ok b w:=by
 obtain ⟨ds,hu,hd⟩:=keyC_spec hc
 unfold sameK0 at hs
 split at hs
 ·rename_i j p k2 q
  split at hs
  ·rename_i hj
   subst hj
   simp only [Option.some.injEq] at hs
   subst hs
   cases hx;cases hy
   rcases hd with ⟨_,k,rfl⟩|⟨h0,_⟩|⟨h0,_⟩
   ·exact run_equalIn_int w d t _ k p q hu
   ·cases h0
   ·cases h0
  ·cases hs
 ·rename_i p q
  simp only [Option.some.injEq] at hs
  cases hx with
  | str _ s=>
   cases hy with
   | str _ s'=>
    rcases hd with ⟨h0,_⟩|⟨_,rfl⟩|⟨h0,_⟩
    ·cases h0
    ·rw [run_equalIn_string w d t s s' hu,toList_eq,toList_eq,hs]
    ·cases h0
 ·rename_i p q
  simp only [Option.some.injEq] at hs
  subst hs
  cases hx;cases hy
  rcases hd with ⟨h0,_⟩|⟨h0,_⟩|⟨_,rfl⟩
  ·cases h0
  ·cases h0
  ·exact run_equalIn_bool' w d t p q hu
 ·cases hs
theorem part_leaf {S:Nat→Prop} {t:TypeId} (hg:C.T.isAgg t=some false) {cs:List V} {ys:Array Value} (hc:CellsR C.N w S β cs ys) {i:Nat} {v:V} (hv:cs[i]?=some v):∃y,(part t ys i).run C.T.P w=.ok y w∧Rel C.N w S β v y:=by
 obtain ⟨y,q1,q2,q3⟩:=hc.get hv
 refine ⟨y,?_,q3⟩
 unfold part
 rw [Sem.run_bind,run_isAgg' hg w]
 simp [q1]
theorem flat_cons {T:Tr} {i:Nat} {f:Field} {r:List Field} {cs:List Nat} (h:T.flat i (f::r)=some cs):∃c cs',cs=c::cs'∧f.name≠"_"∧f.offset=i∧T.isAgg f.type=some false∧T.keyC0 f.type=some c∧T.flat (i+1) r=some cs':=by
 simp only [Tr.flat] at h
 split at h
 ·cases h
 ·rename_i hn
  simp only [Option.bind_eq_some_iff,Option.map_eq_some_iff] at h
  obtain ⟨c,hc,cs',h1,rfl⟩:=h
  simp only [not_or,Decidable.not_not] at hn
  exact ⟨c,cs',rfl,hn.1,hn.2.1,hn.2.2.2,hc,h1⟩
theorem drop_cons {α:Type} {l:List α} {i:Nat} {a:α} {r:List α} (h:l.drop i=a::r):l[i]?=some a∧l.drop (i+1)=r:=by
 constructor
 ·have:=congrArg (fun x=>x[0]?) h
  simpa [List.getElem?_drop] using this
 ·have:=congrArg List.tail h
  simpa [List.tail_drop] using this
theorem eqFlat {S:Nat→Prop} {d:Nat} {ks ls:List V} {X Y:Array Value} (hx:CellsR C.N w S β ks X) (hy:CellsR C.N w S β ls Y):∀(fs:List Field) (i:Nat) (cs:List Nat) (b:Bool),C.T.flat i fs=some cs→sameCs cs (ks.drop i) (ls.drop i)=some b→(Op.eqFields (d+1) X Y fs).run C.T.P w=.ok b w
 | [],i,cs,b,hf,h=>by
  simp [Tr.flat] at hf;subst hf
  cases h1:ks.drop i with
  | nil=>
   cases h2:ls.drop i with
   | nil=>rw [h1,h2] at h;simp [sameCs] at h;subst h;simp [Op.eqFields]
   | cons y ys=>rw [h1,h2] at h;simp [sameCs] at h
  | cons x xs=>rw [h1] at h;simp [sameCs] at h
 | f::fs,i,cs,b,hf,h=>by
  obtain ⟨c,cs',rfl,hn,ho,hg,hc,hf'⟩:=flat_cons hf
  subst ho
  cases h1:ks.drop f.offset with
  | nil=>rw [h1] at h;simp [sameCs] at h
  | cons x xs=>
   cases h2:ls.drop f.offset with
   | nil=>rw [h1,h2] at h;simp [sameCs] at h
   | cons y ys=>
    rw [h1,h2] at h
    simp only [sameCs,Option.bind_eq_some_iff,Option.some.injEq] at h
    obtain ⟨b1,hb1,b2,hb2,rfl⟩:=h
    obtain ⟨g1,g2⟩:=drop_cons h1
    obtain ⟨g3,g4⟩:=drop_cons h2
    obtain ⟨px,p1,p2⟩:=part_leaf hg hx g1
    obtain ⟨py,q1,q2⟩:=part_leaf hg hy g3
    have e:=leaf_runs hc p2 q2 hb1 d
    have ih:=eqFlat (d:=d) hx hy fs (f.offset+1) cs' b2 hf' (by rw [g2,g4];exact hb2)
    cases b1 <;> simp [Op.eqFields,hn,Sem.run_bind,p1,q1,e,ih]
theorem bitsFlat {S:Nat→Prop} (m:Nat):∀(cs:List Nat) (ks ls:List V) (X Y:List Value),(∀c∈cs,∃d,KDesc c d)→X.length=ks.length→Y.length=ls.length→(∀(i:Nat) (c:V) (y:Value),ks[i]?=some c→X[i]?=some y→Rel C.N w S β c y)→(∀(i:Nat) (c:V) (y:Value),ls[i]?=some c→Y[i]?=some y→Rel C.N w S β c y)→
    sameCs cs ks ls=some true→X.length=Y.length∧((Y.zip X).all fun (x,y)=>Instr.sameBits m x y)=true
 | [],ks,ls,X,Y,_,hx,hy,_,_,h=>by
  cases ks with
  | cons x xs=>simp [sameCs] at h
  | nil=>
   cases ls with
   | cons y ys=>simp [sameCs] at h
   | nil=>
    have e1:=List.length_eq_zero_iff.1 hx
    have e2:=List.length_eq_zero_iff.1 hy
    subst e1;subst e2
    exact ⟨rfl,rfl⟩
 | c::cs,ks,ls,X,Y,hc,hx,hy,rx,ry,h=>by
  cases ks with
  | nil=>simp [sameCs] at h
  | cons k ks=>
   cases ls with
   | nil=>simp [sameCs] at h
   | cons l ls=>
    cases X with
    | nil=>simp at hx
    | cons x X=>
     cases Y with
     | nil=>simp at hy
     | cons y Y=>
      simp only [sameCs,Option.bind_eq_some_iff,Option.some.injEq,Bool.and_eq_true] at h
      obtain ⟨b1,hb1,b2,hb2,rfl,rfl⟩:=h
      obtain ⟨d,hd⟩:=hc c (by simp)
      have e:=(same_rel hd (rx 0 k x rfl rfl) (ry 0 l y rfl rfl) hb1 m).2 rfl
      obtain ⟨i1,i2⟩:=bitsFlat m cs ks ls X Y (fun c h=>hc c (by simp [h])) (by simpa using hx) (by simpa using hy) (fun i c y h1 h2=>rx (i+1) c y (by simpa using h1) (by simpa using h2)) (fun i c y h1 h2=>ry (i+1) c y (by simpa using h1) (by simpa using h2)) hb2
      refine ⟨by simp [i1],?_⟩
      simp only [List.zip_cons_cons,List.all_cons,e,Bool.true_and]
      exact i2
theorem flat_kd {T:Tr}:∀(fs:List Field) (i:Nat) (cs:List Nat),T.flat i fs=some cs→∀c∈cs,∃d,KDesc c d
 | [],i,cs,h,c,hc=>by simp [Tr.flat] at h;subst h;simp at hc
 | f::fs,i,cs,h,c,hc=>by
  obtain ⟨c',cs',rfl,hn,ho,hg,hk,hf'⟩:=flat_cons h
  rcases List.mem_cons.1 hc with rfl|h1
  ·obtain ⟨d,_,hd⟩:=keyC_spec hk;exact ⟨d,hd⟩
  ·exact flat_kd fs _ cs' hf' c h1
theorem keyC_struct {T:Tr} {t:TypeId} {c:Nat} (hc:T.keyC t=some c):(∃fs cs,T.P.underlying t=some (.struct fs)∧T.P.stoodInHeld t=false∧T.flat 0 fs.toList=some cs∧kcs 12 (kcOf cs)=cs∧c=3+kcOf cs)∨T.keyC0 t=some c:=by
 unfold Tr.keyC at hc
 split at hc
 ·rename_i fs hu
  split at hc
  ·rename_i hs
   simp only [Option.bind_eq_some_iff] at hc
   obtain ⟨cs,h1,h2⟩:=hc
   split at h2
   ·rename_i h3
    simp only [Option.some.injEq] at h2
    exact .inl ⟨fs,cs,hu,hs,h1,h3,h2.symm⟩
   ·cases h2
  ·cases hc
 ·exact .inr hc
theorem sameK_struct {cs:List Nat} (hcs:kcs 12 (kcOf cs)=cs) {k k':V} {b:Bool} (h:sameK (3+kcOf cs) k k'=some b):∃xs ys,k=.agg xs∧k'=.agg ys∧sameCs cs xs ys=some b:=by
 unfold sameK at h
 rw [if_neg (by omega),Nat.add_sub_cancel_left,hcs] at h
 split at h
 ·exact ⟨_,_,rfl,rfl,h⟩
 ·cases h
theorem asking_rel {S:Nat→Prop} {kt:TypeId} {fs:Array Field} (hu:C.T.P.underlying kt=some (.struct fs)) (hp:C.T.P.stoodInHeld kt=false) {cs:List Nat} (hfl:C.T.flat 0 fs.toList=some cs) (hcs:kcs 12 (kcOf cs)=cs) {k:V} {y:Value} (hk:Rel C.N w S β k y):∀(es:List (V×V)) (l:List MapEntry) (i:Nat) (r:Option Nat),l.length=es.length→
    (∀(j:Nat) (p:V×V) (e:MapEntry),es[j]?=some p→l[j]?=some e→Rel C.N w S β p.1 e.key)→findK (3+kcOf cs) k es i=some r→
    (r=none∧(Instr.findAsking kt y l i).run C.T.P w=.ok none w)∨∃(j:Nat) (p:V×V) (e:MapEntry),r=some (i+j)∧es[j]?=some p∧l[j]?=some e∧(Instr.findAsking kt y l i).run C.T.P w=.ok (some (i+j,e.val)) w∧Instr.sameBits 10000 e.key y=true
 | [],l,i,r,hl,hr,hf=>by
  simp [findK] at hf
  have:l=[]:=by cases l <;> simp_all
  subst this
  exact .inl ⟨hf.symm,rfl⟩
 | p::es,l,i,r,hl,hr,hf=>by
  cases l with
  | nil=>simp at hl
  | cons e l=>
   have hke:=hr 0 p e rfl rfl
   unfold findK at hf
   have key:∀b,sameK (3+kcOf cs) k p.1=some b→(Op.equal kt y e.key).run C.T.P w=.ok b w∧(b=true→Instr.sameBits 10000 e.key y=true):=fun b hb=>by
    obtain ⟨xs,ys,rfl,h2,h3⟩:=sameK_struct hcs hb
    rw [h2] at hke
    obtain ⟨X,rfl,hX⟩:∃X,y=.agg X∧CellsR C.N w S β xs X:=by cases hk with|agg _ _ X a1 a2 a3=>exact ⟨X,rfl,a1,a2,a3⟩
    obtain ⟨Y,hY0,hY⟩:∃Y,e.key=.agg Y∧CellsR C.N w S β ys Y:=by
     generalize e.key=q at hke
     cases hke with|agg _ _ X a1 a2 a3=>exact ⟨_,rfl,a1,a2,a3⟩
    have hfo:C.T.P.fieldsOf kt=fs:=by simp [Program.fieldsOf,hu]
    refine ⟨?_,fun hbt=>?_⟩
    ·rw [hY0]
     show (Op.equalIn (9999+1) kt (.agg X) (.agg Y)).run C.T.P w=_
     rw [run_equalIn_struct w 9999 kt X Y (by rw [hfo];exact hu) hp,hfo]
     exact eqFlat hX hY fs.toList 0 cs b hfl (by simpa using h3)
    ·subst hbt
     rw [hY0]
     obtain ⟨i1,i2⟩:=bitsFlat (S:=S) (C:=C) (w:=w) (β:=β) 9999 cs xs ys X.toList Y.toList (flat_kd _ _ _ hfl) (by simpa using hX.1) (by simpa using hY.1) (fun i c y h1 h2=>hX.2.2 i c y h1 (by simpa using h2)) (fun i c y h1 h2=>hY.2.2 i c y h1 (by simpa using h2)) h3
     have i1':Y.size=X.size:=by simpa using i1.symm
     simp only [Instr.sameBits,i1',BEq.rfl,Bool.true_and]
     exact i2
   split at hf
   ·rename_i hs
    simp only [Option.some.injEq] at hf
    obtain ⟨h1,h2⟩:=key _ hs
    exact .inr ⟨0,p,e,by simp [hf],rfl,rfl,by simp [Instr.findAsking,Sem.run_bind,h1],h2 rfl⟩
   ·rename_i hs
    obtain ⟨h1,h2⟩:=key _ hs
    rcases asking_rel hu hp hfl hcs hk es l (i+1) r (by simpa using hl) (fun j p e h1 h2=>hr (j+1) p e (by simpa using h1) (by simpa using h2)) hf with ⟨h3,h4⟩|⟨j,p',e',h3,h4,h5,h6,h7⟩
    ·exact .inl ⟨h3,by simp [Instr.findAsking,Sem.run_bind,h1,h4]⟩
    ·exact .inr ⟨j+1,p',e',by rw [h3];congr 1;omega,by simpa using h4,by simpa using h5,by simp [Instr.findAsking,Sem.run_bind,h1,h6];omega,h7⟩
   ·cases hf
theorem findKey_rel {S:Nat→Prop} {kt:TypeId} {c:Nat} (hc:C.T.keyC kt=some c) {k:V} {y:Value} (hk:Rel C.N w S β k y) (es:List (V×V)) (l:List MapEntry) (r:Option Nat) (hl:l.length=es.length)
    (hr:∀(j:Nat) (p:V×V) (e:MapEntry),es[j]?=some p→l[j]?=some e→Rel C.N w S β p.1 e.key) (hf:findK c k es 0=some r) :
    (r=none∧(Instr.findKey kt y l).run C.T.P w=.ok none w)∨∃(j:Nat) (p:V×V) (e:MapEntry),r=some j∧es[j]?=some p∧l[j]?=some e∧(Instr.findKey kt y l).run C.T.P w=.ok (some (j,e.val)) w∧Instr.sameBits 10000 e.key y=true:=by
 rcases keyC_struct hc with ⟨fs,cs,hu,hp,hfl,hcs,rfl⟩|h0
 ·have hgo:(Instr.findKey kt y l).run C.T.P w=(Instr.findAsking kt y l).run C.T.P w:=by
    unfold Instr.findKey
    rw [Sem.run_bind,run_underlying hu w,Result.andThen_ok]
    cases l with
    | nil=>rfl
    | cons e l=>
     have:Instr.findNow (.struct fs) y (e::l) 0=none:=by
      unfold Instr.findNow
      simp [Instr.sameNow]
     rw [this]
  rw [hgo]
  rcases asking_rel hu hp hfl hcs hk es l 0 r hl hr hf with h|⟨j,p,e,h1,h2⟩
  ·exact .inl h
  ·rw [Nat.zero_add] at h1 h2
   exact .inr ⟨j,p,e,h1,h2⟩
 ·obtain ⟨d,hd,hkd⟩:=keyC_spec h0
  rcases findNow_rel hkd hk es l 0 r hl hr hf with ⟨h1,h2⟩|⟨j,p,e,h1,h2,h3,h4,h5⟩
  ·exact .inl ⟨h1,run_findKey hd h2 w⟩
  ·rw [Nat.zero_add] at h1 h4
   exact .inr ⟨j,p,e,h1,h2,h3,run_findKey hd h4 w,h5⟩
theorem checkFlat {S:Nat→Prop} {b:Bool} {m:Nat} {ks:List V} {X:Array Value} (hx:CellsR C.N w S β ks X):∀(fs:List Field) (i:Nat) (cs:List Nat),C.T.flat i fs=some cs→keyCs cs (ks.drop i)=true→
    (forIn fs PUnit.unit fun (f:Field) (_:PUnit)=>(if f.name≠"_" then do { let x ←part f.type X f.offset;Instr.checkKey b (m+1) f.type x;pure (ForInStep.yield PUnit.unit) } else pure (ForInStep.yield PUnit.unit):Sem (ForInStep PUnit))).run C.T.P w=.ok PUnit.unit w
 | [],i,cs,hf,h=>by simp
 | f::fs,i,cs,hf,h=>by
  obtain ⟨c,cs',rfl,hn,ho,hg,hc,hf'⟩:=flat_cons hf
  subst ho
  cases h1:ks.drop f.offset with
  | nil=>rw [h1] at h;simp [keyCs] at h
  | cons x xs=>
   rw [h1] at h
   simp only [keyCs,Bool.and_eq_true] at h
   obtain ⟨g1,g2⟩:=drop_cons h1
   obtain ⟨px,p1,p2⟩:=part_leaf hg hx g1
   obtain ⟨d,hd,hkd⟩:=keyC_spec hc
   have e:=run_checkKey (P:=C.T.P) hd hkd b px m w
   have ih:=checkFlat (b:=b) (m:=m) hx fs (f.offset+1) cs' hf' (by rw [g2];exact h.2)
   simp only [List.forIn_cons,Sem.run_bind,if_pos hn,p1,Result.andThen_ok,e]
   simpa using ih
theorem checkKey_rel {S:Nat→Prop} {kt:TypeId} {c:Nat} (hc:C.T.keyC kt=some c) {k:V} {y:Value} (hk:Rel C.N w S β k y) (hkv:keyV c k=true) (b:Bool):(Instr.checkKey b 10000 kt y).run C.T.P w=.ok () w:=by
 rcases keyC_struct hc with ⟨fs,cs,hu,hp,hfl,hcs,rfl⟩|h0
 ·unfold keyV at hkv
  rw [if_neg (by omega),Nat.add_sub_cancel_left,hcs] at hkv
  split at hkv
  ·rename_i vs
   cases hk with
   | agg _ _ X a1 a2 a3=>
    have:=checkFlat (C:=C) (w:=w) (β:=β) (S:=S) (b:=b) (m:=9998) (ks:=vs) (X:=X) ⟨a1,a2,a3⟩ fs.toList 0 cs hfl (by simpa using hkv)
    unfold Instr.checkKey
    rw [Sem.run_bind,run_underlying hu w,Result.andThen_ok]
    simp only
    rw [←Array.forIn_toList]
    simpa using this
  ·cases hkv
 ·obtain ⟨d,hd,hkd⟩:=keyC_spec h0
  exact run_checkKey hd hkd b y 9999 w
theorem mapOf_rel {N:Nums} (hh:HeapR A N w β h) {m:V} {x:Value} (hm:Rel N w (Imm A w β h) β m x) {es:List (V×V)} {nd:List Nat} (he:mapOf h m=some (es,nd)) :
    (es=[]∧x=.map none)∨∃(b:Nat) (arr:Array MapEntry) (clk:Nat),x=.map (some b)∧w.heap[b]?=some (.map arr clk)∧arr.size=es.length∧
     ∀(i:Nat) (p:V×V) (e:MapEntry),es[i]?=some p→arr[i]?=some e→Rel N w (Imm A w β h) β p.1 e.key∧Rel N w (Imm A w β h) β p.2 e.val:=by
 cases hm with
 | nilm=>simp [mapOf] at he;exact .inl ⟨he.1,rfl⟩
 | mapp _ a b hb=>
  simp only [mapOf] at he
  split at he
  ·rename_i es' bs' clk' hk
   simp only [Option.some.injEq,Prod.mk.injEq] at he
   obtain ⟨rfl,_⟩:=he
   obtain ⟨b',h1,h2,h3⟩:=hh.at' a _ hk
   rw [hb] at h1;cases h1
   obtain ⟨arr,g1,g2,_,g3⟩:=h3
   exact .inr ⟨b,arr,_,rfl,g1,g2,g3⟩
  ·cases he
 | _=>simp [mapOf] at he
theorem mkmap_runs (hh:HeapR A C.N w β h) (hn:β n=none) (hhn:h n=none) {t:TypeId} {kt et:TypeId} (hu:C.T.P.underlying t=some (.map kt et)) {r:Option Value} (hr:∀x,r=some x→∃k i,x=.int k i) :
    Runs A C w β h n { v:=.mapp n,new:=[.map [] [] 0] } (do pure (.value (←Instr.makeMap t r))):=by
 have hrun:(Instr.makeMap t r).run C.T.P w=.ok (.map (some w.heap.size)) (w.alloc (.map #[] 0)):=by
  unfold Instr.makeMap
  cases r with
  | none=>simp [Result.andThen_ok]
  | some x=>
   obtain ⟨k,i,rfl⟩:=hr x rfl
   simp [Sem.run_bind,Result.andThen_ok,run_underlying hu,asInt,asIntOf]
 refine ⟨.map (some w.heap.size),w.alloc (.map #[] 0),.inl (by rw [Sem.run_bind,hrun];rfl),effOk_new (k:=.map [] [] 0) (o:=.map #[] 0) hh hn hhn rfl rfl rfl rfl rfl rfl (fun β' S hβ hb hS=>?_) (fun β' S hβ hb hS=>.mapp _ _ _ hb)⟩
 exact ⟨#[],by show (w.heap.push _)[w.heap.size]?=_;simp,rfl,rfl,fun i p e hp=>by simp at hp⟩
theorem mget_runs (hh:HeapR A C.N w β h) {t kt et:TypeId} (hu:C.T.P.underlying t=some (.map kt et)) {c:Nat} (hc:C.T.keyC kt=some c) {z:V} (hz:C.T.zeroW et=some z) {ok:Bool} {m k:V} {x y:Value} (hm:Rel C.N w (Imm A w β h) β m x) (hk:Rel C.N w (Imm A w β h) β k y) {e:Eff}
    (he:mgetV h c z ok m k=some e):Runs A C w β h n e (do pure (.value (←Instr.lookup t x y ok))):=by
 unfold Tr.zeroW at hz
 simp only [Option.bind_eq_some_iff] at hz
 obtain ⟨zv,⟨ti,hti,hzv⟩,hz⟩:=hz
 have hzr:Rel C.N w (Imm A w β h) β z zv:=V.of_rel zv z hz
 have hzrun:=run_zero (T:=C.T) hti hzv w
 unfold mgetV at he
 split at he
 case isFalse=>cases he
 rename_i hkv
 simp only [Option.bind_eq_some_iff] at he
 obtain ⟨⟨es,nd⟩,hmo,r,hr,he⟩:=he
 simp only [Option.some.injEq] at he
 subst he
 have key:∀(l:Array MapEntry),l.size=es.length→(∀(i:Nat) (p:V×V) (e:MapEntry),es[i]?=some p→l[i]?=some e→Rel C.N w (Imm A w β h) β p.1 e.key∧Rel C.N w (Imm A w β h) β p.2 e.val)→
     (x=.map none∧l=#[]∨∃b clk,x=.map (some b)∧w.heap[b]?=some (.map l clk))→
     Runs A C w β h n { v:=if ok then .tup [pickV es z r,.bool r.isSome] else pickV es z r,need:=nd } (do pure (.value (←Instr.lookup t x y ok))):=by
  intro l hl hrel hrun
  have hfin:∀(v:Value) (b:Bool),True→Rel C.N w (Imm A w β h) β (pickV es z r) v→r.isSome=b→(Instr.lookup t x y ok).run C.T.P w=.ok (if ok then .tuple #[v,.bool b] else v) w→
      Runs A C w β h n { v:=if ok then .tup [pickV es z r,.bool r.isSome] else pickV es z r,need:=nd } (do pure (.value (←Instr.lookup t x y ok))):=fun v b _ hv hb hrun2=>by
   refine runs_same hh rfl rfl hrun2 ?_
   cases ok with
   | false=>exact hv
   | true=>
    rw [hb]
    refine .tup _ _ _ rfl (fun i c' y' hc' hy'=>?_)
    match i,hc',hy' with
    | 0,hc',hy'=>simp at hc' hy';rw [←hc',←hy'];exact hv
    | 1,hc',hy'=>simp at hc' hy';rw [←hc',←hy'];exact .bool _ b
    | i+2,hc',hy'=>simp at hc'
  have hlk:∀q,(Instr.findKey kt y l.toList).run C.T.P w=.ok q w→(Instr.lookup t x y ok).run C.T.P w=.ok (if ok then .tuple #[(match q with|some (_,v)=>v|none=>zv),.bool q.isSome] else (match q with|some (_,v)=>v|none=>zv)) w:=fun q hq=>by
   have hck:∀b,(Instr.checkKey b 10000 kt y).run C.T.P w=.ok () w:=fun b=>checkKey_rel hc hk hkv b
   have hfk:=hq
   unfold Instr.lookup
   rcases hrun with ⟨rfl,rfl⟩|⟨b,clk,rfl,hb⟩
   ·have hfk':(Instr.findKey kt y ([]:List MapEntry)).run C.T.P w=.ok q w:=hfk
    cases q with
    | none=>cases ok <;> simp [Sem.run_bind,run_underlying hu,hck,hfk',hzrun]
    | some q=>obtain ⟨i,v⟩:=q;cases ok <;> simp [Sem.run_bind,run_underlying hu,hck,hfk']
   ·have hg:=run_getM (P:=C.T.P) hb
    cases q with
    | none=>cases ok <;> simp [Sem.run_bind,run_underlying hu,hg,hck,hfk,hzrun]
    | some q=>obtain ⟨i,v⟩:=q;cases ok <;> simp [Sem.run_bind,run_underlying hu,hg,hck,hfk]
  rcases findKey_rel hc hk es l.toList r (by simpa using hl) (fun j p e h1 h2=>(hrel j p e h1 (by simpa using h2)).1) hr with ⟨h1,h2⟩|⟨j,p,e,h1,h2,h3,h4,_⟩
  ·subst h1
   exact hfin zv false trivial hzr rfl (hlk none h2)
  ·subst h1
   have hv:=(hrel j p e h2 (by simpa using h3)).2
   refine hfin e.val true trivial ?_ rfl (hlk _ h4)
   simp only [pickV,h2,Option.map_some,Option.getD_some]
   exact hv
 rcases mapOf_rel hh hm hmo with ⟨rfl,rfl⟩|⟨b,arr,clk,rfl,g1,g2,g3⟩
 ·exact key #[] rfl (fun i p e hp=>by simp at hp) (.inl ⟨rfl,rfl⟩)
 ·exact key arr g2 g3 (.inr ⟨b,clk,rfl,g1⟩)
theorem tup_none {N:Nums} {S:Nat→Prop}:Rel N w S β (.tup []) undef:=.tup _ [] #[] rfl (fun i c y hc=>by simp at hc)
theorem born_modify {l:Array MapEntry} {f:MapEntry→MapEntry} (hf:∀e,(f e).born=e.born) (i:Nat):(l.modify i f).toList.map (·.born)=l.toList.map (·.born):=by
 apply List.ext_getElem?
 intro j
 simp only [List.getElem?_map,Array.getElem?_toList,Array.getElem?_modify]
 by_cases h:i=j
 ·rw [if_pos h]
  cases l[j]? with
  | none=>rfl
  | some e=>simp [hf]
 ·rw [if_neg h]
theorem map_upd (hh:HeapR A C.N w β h) {a' b:Nat} {es es':List (V×V)} {bs bs':List Nat} {arr arr':Array MapEntry} {clk clk':Nat} (hk:h a'=some (.map es bs clk)) (hb:β a'=some b) (hw:w.heap[b]?=some (.map arr clk)) {e:Eff} (h1:e.upd=[(a',some (.map es' bs' clk'))]) (h2:e.new=[]) {x:Value} (hx:∀(S:Nat→Prop) (w':World),(∀c,Imm A w β h c→S c)→(∀c,Imm A w β h c→w'.heap[c]?=w.heap[c]?)→(∀b m,Room w b m→Room w' b m)→Rel C.N w' S β e.v x)
    (hs:arr'.size=es'.length) (hbs:arr'.toList.map (·.born)=bs') (hr:∀(S:Nat→Prop) (w':World),(∀c,Imm A w β h c→S c)→(∀c,Imm A w β h c→w'.heap[c]?=w.heap[c]?)→(∀b m,Room w b m→Room w' b m)→∀(i:Nat) (p:V×V) (e:MapEntry),es'[i]?=some p→arr'[i]?=some e→Rel C.N w' S β p.1 e.key∧Rel C.N w' S β p.2 e.val) :
    EffOk A C.N w β h n e x { w with heap:=w.heap.setIfInBounds b (.map arr' clk') }:=by
 have hlt:=(Array.getElem?_eq_some_iff.1 hw).1
 have hother:∀c,c≠b→(w.heap.setIfInBounds b (.map arr' clk'))[c]?=w.heap[c]?:=fun c hc=>Array.getElem?_setIfInBounds_ne (fun e=>hc e.symm)
 have hroom:∀b' m,Room w b' m→Room { w with heap:=w.heap.setIfInBounds b (.map arr' clk') } b' m:=fun b' m ⟨cells,T,fz,r1,r2⟩=>by
  refine ⟨cells,T,fz,?_,r2⟩
  show (w.heap.setIfInBounds b (.map arr' clk'))[b']?=_
  rw [hother b' (fun e=>by subst e;rw [hw] at r1;cases r1)];exact r1
 have himm:∀c,Imm A w β h c→(w.heap.setIfInBounds b (.map arr' clk'))[c]?=w.heap[c]?:=fun c hc=>hother c (fun e=>by
  subst e
  obtain ⟨cells,T,fz,r1⟩:=hc.arr
  rw [hw] at r1;cases r1)
 refine effOk_upd (b:=b) hh hk hb h1 h2 hother hroom (by simp) rfl rfl rfl (fun S hS=>?_) (fun S hS=>hx S _ hS himm hroom)
 refine ⟨arr',?_,hs,hbs,hr S _ hS himm hroom⟩
 show (w.heap.setIfInBounds b (.map arr' clk'))[b]?=_
 rw [Array.getElem?_setIfInBounds_self_of_lt hlt]
theorem mset_runs (hh:HeapR A C.N w β h) {t kt et:TypeId} (hu:C.T.P.underlying t=some (.map kt et)) {c:Nat} (hc:C.T.keyC kt=some c) {m k v:V} {x y z:Value} (hm:Rel C.N w (Imm A w β h) β m x) (hk:Rel C.N w (Imm A w β h) β k y) (hv:Rel C.N w (Imm A w β h) β v z) {e:Eff}
    (he:msetV h c m k v=some e):Runs A C w β h n e (do Instr.mapUpdate t x y z;pure .skip):=by
 unfold msetV at he
 split at he
 case h_2=>cases he
 rename_i a'
 split at he
 case h_2=>cases he
 rename_i es bs clk hkb
 split at he
 case isFalse=>cases he
 rename_i hkv
 simp only [Bool.and_eq_true] at hkv
 simp only [Option.bind_eq_some_iff,Option.some.injEq] at he
 obtain ⟨r,hr,rfl⟩:=he
 cases hm with
 | mapp _ _ b hb=>
  obtain ⟨b',q1,q2,q3⟩:=hh.at' a' _ hkb
  rw [hb] at q1;cases q1
  obtain ⟨arr,g1,g2,gb,g3⟩:=q3
  have hrun:∀(q:Option (Nat×Value)) (arr':Array MapEntry) (clk':Nat),(Instr.findKey kt y arr.toList).run C.T.P w=.ok q w→
      (match q with
       | some (i,_)=>Instr.sameBits 10000 (((arr[i]?).map (·.key)).getD y) y=true∧arr'=arr.modify i (fun e=>{ e with key:=y,val:=z })∧clk'=clk
       | none=>arr'=arr.push { key:=y,val:=z,born:=clk }∧clk'=clk+1)→
      (Instr.mapUpdate t (.map (some b)) y z).run C.T.P w=.ok () { w with heap:=w.heap.setIfInBounds b (.map arr' clk') }:=fun q arr' clk' hq hm=>by
   unfold Instr.mapUpdate
   rw [Sem.run_bind,run_underlying hu w,Result.andThen_ok]
   simp only
   rw [Sem.run_bind,run_getM g1,Result.andThen_ok]
   simp only
   rw [Sem.run_bind,checkKey_rel hc hk hkv.1,Result.andThen_ok,Sem.run_bind,hq,Result.andThen_ok]
   cases q with
   | none=>
    obtain ⟨rfl,rfl⟩:=hm
    exact run_setM _ g1
   | some q=>
    obtain ⟨i,v0⟩:=q
    obtain ⟨m1,rfl,rfl⟩:=hm
    simp only
    have hks:(Instr.keyThatStays (((arr[i]?).map (·.key)).getD y) y).run C.T.P w=.ok y w:=by
     unfold Instr.keyThatStays
     rw [if_pos m1];rfl
    rw [Sem.run_bind,hks,Result.andThen_ok]
    exact run_setM _ g1
  have hrel:∀(S:Nat→Prop) (w':World),(∀c,Imm A w β h c→S c)→(∀c,Imm A w β h c→w'.heap[c]?=w.heap[c]?)→(∀b m,Room w b m→Room w' b m)→∀{u:V} {yy:Value},Rel C.N w (Imm A w β h) β u yy→Rel C.N w' S β u yy:=
   fun S w' h1 h2 h3 {u yy} h4=>h4.mono h1 h2 h3 (fun _ _ h=>h)
  rcases findKey_rel hc hk es arr.toList r (by simpa using g2) (fun j p e h1 h2=>(g3 j p e h1 (by simpa using h2)).1) hr with ⟨h1,h2⟩|⟨j,p,e,h1,h2,h3,h4,h5⟩
  ·subst h1
   refine ⟨undef,_,.inr ⟨by rw [Sem.run_bind,hrun none _ _ h2 ⟨rfl,rfl⟩];rfl,rfl⟩,map_upd hh hkb hb g1 rfl rfl (fun _ _ _ _ _=>tup_none) (by simp [g2]) (by simp [←gb]) (fun S w' s1 s2 s3 i p e hp he=>?_)⟩
   rw [List.getElem?_append] at hp
   rw [Array.getElem?_push] at he
   by_cases hi:i=arr.size
   ·rw [if_pos hi] at he
    rw [if_neg (by omega)] at hp
    cases he
    rw [hi,g2,Nat.sub_self] at hp
    simp at hp
    subst hp
    exact ⟨hrel S w' s1 s2 s3 hk,hrel S w' s1 s2 s3 hv⟩
   ·rw [if_neg hi] at he
    have hlt:=(Array.getElem?_eq_some_iff.1 he).1
    rw [if_pos (by omega)] at hp
    exact ⟨hrel S w' s1 s2 s3 (g3 i p e hp he).1,hrel S w' s1 s2 s3 (g3 i p e hp he).2⟩
  ·subst h1
   have h3':arr[j]?=some e:=by simpa using h3
   refine ⟨undef,_,.inr ⟨by rw [Sem.run_bind,hrun _ _ _ h4 ⟨by rw [h3'];exact h5,rfl,rfl⟩];rfl,rfl⟩,map_upd hh hkb hb g1 rfl rfl (fun _ _ _ _ _=>tup_none) (by simp [g2]) ((born_modify (l:=arr) (f:=fun e=>{ e with key:=y,val:=z }) (fun _=>rfl) j).trans gb) (fun S w' s1 s2 s3 i p' e' hp he=>?_)⟩
   rw [List.getElem?_set] at hp
   rw [Array.getElem?_modify] at he
   by_cases hij:j=i
   ·subst hij
    rw [if_pos rfl] at hp he
    rw [if_pos (List.getElem?_eq_some_iff.1 h2).1] at hp
    rw [h3'] at he
    simp at hp he
    subst hp;subst he
    exact ⟨hrel S w' s1 s2 s3 hk,hrel S w' s1 s2 s3 hv⟩
   ·rw [if_neg hij] at hp he
    exact ⟨hrel S w' s1 s2 s3 (g3 i p' e' hp he).1,hrel S w' s1 s2 s3 (g3 i p' e' hp he).2⟩
theorem mdel_runs (hh:HeapR A C.N w β h) {t u kt et ty:TypeId} (hu:C.T.P.underlying t=some (.map kt et)) {c:Nat} (hc:C.T.keyC kt=some c) {m k:V} {x y:Value} (hm:Rel C.N w (Imm A w β h) β m x) (hk:Rel C.N w (Imm A w β h) β k y) {e:Eff}
    (he:mdelV h c m k=some e):Runs A C w β h n e (do pure (.value (←Builtin.delete_ #[t,u] ty #[x,y]))):=by
 unfold mdelV at he
 split at he
 case h_2=>cases he
 rename_i a'
 split at he
 case h_2=>cases he
 rename_i es bs clk hkb
 split at he
 case isFalse=>cases he
 rename_i hkv
 simp only [Option.bind_eq_some_iff,Option.some.injEq] at he
 obtain ⟨r,hr,rfl⟩:=he
 cases hm with
 | mapp _ _ b hb=>
  obtain ⟨b',q1,q2,q3⟩:=hh.at' a' _ hkb
  rw [hb] at q1;cases q1
  obtain ⟨arr,g1,g2,gb,g3⟩:=q3
  have hrun:∀(q:Option (Nat×Value)) (arr':Array MapEntry),(Instr.findKey kt y arr.toList).run C.T.P w=.ok q w→
      (match q with
       | some (i,_)=>arr'=arr.eraseIdxIfInBounds i
       | none=>arr'=arr)→
      (Builtin.delete_ #[t,u] ty #[.map (some b),y]).run C.T.P w=.ok (.tuple #[]) { w with heap:=w.heap.setIfInBounds b (.map arr' clk) }:=fun q arr' hq hm=>by
   unfold Builtin.delete_
   simp only [List.getElem?_toArray,List.getElem?_cons_zero,List.getElem?_cons_succ]
   rw [Sem.run_bind,run_underlying hu w,Result.andThen_ok]
   simp only
   have hck:=checkKey_rel (C:=C) hc hk hkv arr.isEmpty
   have hset:∀arr'':Array MapEntry,(setObj b (.map arr'' clk)).run C.T.P w=.ok () { w with heap:=w.heap.setIfInBounds b (.map arr'' clk) }:=fun arr''=>run_setM _ g1
   cases q with
   | none=>
    subst hm
    simp only [Sem.run_bind,run_getM g1,Result.andThen_ok,hck,hq,hset]
    rfl
   | some q=>
    obtain ⟨i,v0⟩:=q
    subst hm
    simp only [Sem.run_bind,run_getM g1,Result.andThen_ok,hck,hq,hset]
    rfl
  have hrel:∀(S:Nat→Prop) (w':World),(∀c,Imm A w β h c→S c)→(∀c,Imm A w β h c→w'.heap[c]?=w.heap[c]?)→(∀b m,Room w b m→Room w' b m)→∀{u:V} {yy:Value},Rel C.N w (Imm A w β h) β u yy→Rel C.N w' S β u yy:=
   fun S w' h1 h2 h3 {u yy} h4=>h4.mono h1 h2 h3 (fun _ _ h=>h)
  rcases findKey_rel hc hk es arr.toList r (by simpa using g2) (fun j p e h1 h2=>(g3 j p e h1 (by simpa using h2)).1) hr with ⟨h1,h2⟩|⟨j,p,e,h1,h2,h3,h4,h5⟩
  ·subst h1
   exact ⟨undef,_,.inl (by rw [Sem.run_bind,hrun none _ h2 rfl];rfl),map_upd hh hkb hb g1 rfl rfl (fun _ _ _ _ _=>tup_none) g2 gb (fun S w' s1 s2 s3 i p e hp he=>⟨hrel S w' s1 s2 s3 (g3 i p e hp he).1,hrel S w' s1 s2 s3 (g3 i p e hp he).2⟩)⟩
  ·subst h1
   have hj:j < arr.size:=by have:=(List.getElem?_eq_some_iff.1 h3).1;simpa using this
   have e1:(arr.eraseIdxIfInBounds j).toList=arr.toList.eraseIdx j:=by simp
   refine ⟨undef,_,.inl (by rw [Sem.run_bind,hrun _ _ h4 rfl];rfl),map_upd hh hkb hb g1 rfl rfl (fun _ _ _ _ _=>tup_none) ?_ (by rw [e1,Go.ChangeMaps.map_eraseIdx,gb]) (fun S w' s1 s2 s3 i p' e' hp he=>?_)⟩
   ·rw [←Array.length_toList,e1,List.length_eraseIdx,List.length_eraseIdx,Array.length_toList,g2]
   ·rw [←Array.getElem?_toList,e1,List.getElem?_eraseIdx] at he
    rw [List.getElem?_eraseIdx] at hp
    by_cases hij:i < j
    ·rw [if_pos hij] at hp he
     exact ⟨hrel S w' s1 s2 s3 (g3 i p' e' hp (by simpa using he)).1,hrel S w' s1 s2 s3 (g3 i p' e' hp (by simpa using he)).2⟩
    ·rw [if_neg hij] at hp he
     exact ⟨hrel S w' s1 s2 s3 (g3 _ p' e' hp (by simpa using he)).1,hrel S w' s1 s2 s3 (g3 _ p' e' hp (by simpa using he)).2⟩
theorem mlen_runs (hh:HeapR A C.N w β h) {t kt et ty:TypeId} (hu:C.T.P.underlying t=some (.map kt et)) {m:V} {x:Value} (hm:Rel C.N w (Imm A w β h) β m x) {es:List (V×V)} {nd:List Nat} (he:mapOf h m=some (es,nd)) :
    Runs A C w β h n { v:=.int .i64 es.length,need:=nd } (do pure (.value (←Builtin.len_ #[t] ty #[x]))):=by
 rcases mapOf_rel hh hm he with ⟨rfl,rfl⟩|⟨b,arr,clk,rfl,g1,g2,_⟩
 ·exact runs_same hh rfl rfl (x:=goInt 0) (by simp [Builtin.len_,run_underlying hu]) (.int _ _ _)
 ·refine runs_same hh rfl rfl (x:=goInt arr.size) ?_ (by rw [g2];exact .int _ _ _)
  unfold Builtin.len_
  simp only [List.getElem?_toArray,List.getElem?_cons_zero]
  rw [Sem.run_bind,run_underlying hu w,Result.andThen_ok]
  simp only
  rw [Sem.run_bind,run_getM g1]
  rfl
theorem mrange_runs (hh:HeapR A C.N w β h) (hn:β n=none) (hhn:h n=none) {t kt et:TypeId} (hu:C.T.P.underlying t=some (.map kt et)) {m:V} {x:Value} (hm:Rel C.N w (Imm A w β h) β m x) {e:Eff} (he:mrangeV n h m=some e):Runs A C w β h n e (do pure (.value (←Instr.range t x))):=by
 unfold mrangeV at he
 split at he
 ·simp only [Option.some.injEq] at he
  subst he
  cases hm
  refine ⟨.pointer (some ⟨w.heap.size,0,none⟩),w.alloc (.mapIter none 0 #[] 0),.inl ?_,effOk_new (k:=.iter none 0 [] 0) (o:=.mapIter none 0 #[] 0) hh hn hhn rfl rfl rfl rfl rfl rfl (fun β' S hβ hb hS=>⟨none,?_,rfl⟩) (fun β' S hβ hb hS=>.ptr _ n 0 0 0 _ hb)⟩
  ·simp [Instr.range,Sem.run_bind,run_underlying hu]
  ·show (w.heap.push _)[w.heap.size]?=_;simp
 ·rename_i a'
  split at he
  ·rename_i es bs clk hk
   simp only [Option.some.injEq] at he
   subst he
   cases hm with
   | mapp _ _ b hb=>
    obtain ⟨b',q1,q2,q3⟩:=hh.at' a' _ hk
    rw [hb] at q1;cases q1
    obtain ⟨arr,g1,g2,gb,g3⟩:=q3
    refine ⟨.pointer (some ⟨w.heap.size,0,none⟩),w.alloc (.mapIter (some b) clk #[] clk),.inl ?_,effOk_new (k:=.iter (some a') clk [] clk) (o:=.mapIter (some b) clk #[] clk) hh hn hhn rfl rfl rfl rfl rfl rfl (fun β' S hβ hb' hS=>⟨some b,?_,b,hβ _ _ hb,rfl⟩) (fun β' S hβ hb hS=>.ptr _ n 0 0 0 _ hb)⟩
    ·simp [Instr.range,Sem.run_bind,run_underlying hu,run_getM g1]
    ·show (w.heap.push _)[w.heap.size]?=_;simp
  ·cases he
 ·cases he
theorem srange_runs (hh:HeapR A C.N w β h) (hn:β n=none) (hhn:h n=none) {t:TypeId} (hu:C.T.P.underlying t=some .string) {m:V} {x:Value} (hm:Rel C.N w (Imm A w β h) β m x) {e:Eff} (he:srangeV n m=some e):Runs A C w β h n e (do pure (.value (←Instr.range t x))):=by
 unfold srangeV at he
 split at he
 ·simp only [Option.some.injEq] at he
  subst he
  cases hm with
  | str _ s=>
   refine ⟨.pointer (some ⟨w.heap.size,0,none⟩),w.alloc (.stringIter s 0),.inl ?_,effOk_new (k:=.siter s.data.toList 0) (o:=.stringIter s 0) hh hn hhn rfl rfl rfl rfl rfl rfl (fun β' S hβ hb hS=>⟨s,?_,rfl⟩) (fun β' S hβ hb hS=>.ptr _ n 0 0 0 _ hb)⟩
   ·simp [Instr.range,Sem.run_bind,run_underlying hu]
   ·show (w.heap.push _)[w.heap.size]?=_;simp
 ·cases he
theorem memN_contains (b:Nat):∀(l:List Nat),memN b l=l.contains b
 | []=>rfl
 | x::r=>by
  unfold memN
  rw [List.contains_cons,memN_contains b r]
  cases hx:Nat.beq x b with
  | true=>
   have:=Nat.eq_of_beq_eq_true hx
   subst this;simp
  | false=>
   have:¬b=x:=fun e=>by subst e;rw [Nat.beq_refl] at hx;cases hx
   simp [this]
theorem allLt_spec {b:Nat}:∀{l:List Nat},allLt b l=true→∀x∈l,x < b
 | [],_,x,hx=>by simp at hx
 | y::r,h,x,hx=>by
  unfold allLt at h
  rw [Bool.and_eq_true] at h
  rcases List.mem_cons.1 hx with rfl|h1
  ·have:=h.1;rw [Nat.blt_eq] at this;exact this
  ·exact allLt_spec h.2 x h1
theorem candsN_mem {R:V×V→MapEntry→Prop} {seen:List Nat}:∀(l:List MapEntry) (es:List (V×V)),l.length=es.length→(∀(i:Nat) (p:V×V) (e:MapEntry),es[i]?=some p→l[i]?=some e→R p e)→
    (∀e∈l,memN e.born seen=false→∃p,(e.born,p)∈candsN seen (l.map (·.born)) es∧R p e)∧∀c∈candsN seen (l.map (·.born)) es,∃e∈l,memN e.born seen=false
 | [],es,hl,hr=>by
  refine ⟨fun e he=>by simp at he,fun c hc=>?_⟩
  simp [candsN] at hc
 | e::l,es,hl,hr=>by
  cases es with
  | nil=>simp at hl
  | cons p es=>
   obtain ⟨i1,i2⟩:=candsN_mem (R:=R) (seen:=seen) l es (by simpa using hl) (fun i p e h1 h2=>hr (i+1) p e (by simpa using h1) (by simpa using h2))
   rw [List.map_cons]
   unfold candsN
   cases hm:memN e.born seen with
   | true=>
    refine ⟨fun x hx hxs=>?_,fun c hc=>?_⟩
    ·rcases List.mem_cons.1 hx with rfl|h
     ·rw [hm] at hxs;cases hxs
     ·exact i1 x h hxs
    ·obtain ⟨x,h1,h2⟩:=i2 c hc
     exact ⟨x,List.mem_cons_of_mem _ h1,h2⟩
   | false=>
    refine ⟨fun x hx hxs=>?_,fun c hc=>?_⟩
    ·rcases List.mem_cons.1 hx with rfl|h
     ·exact ⟨p,by simp,hr 0 p _ rfl rfl⟩
     ·obtain ⟨q,h1,h2⟩:=i1 x h hxs
      exact ⟨q,List.mem_cons_of_mem _ h1,h2⟩
    ·exact ⟨e,by simp,hm⟩
theorem findN_born (b:Nat):∀(l:List MapEntry) (i j:Nat),findN b (l.map (·.born)) i=some j→∃k e,j=i+k∧l[k]?=some e∧e.born=b∧l.find? (fun x=>x.born == b)=some e∧l.findIdx? (fun x=>x.born == b)=some k
 | [],i,j,h=>by simp [findN] at h
 | e::l,i,j,h=>by
  rw [List.map_cons] at h
  unfold findN at h
  cases hb:Nat.beq e.born b with
  | true=>
   rw [hb] at h
   simp only [cond_true,Option.some.injEq] at h
   have:=Nat.eq_of_beq_eq_true hb
   exact ⟨0,e,by omega,rfl,this,by simp [this],by simp [List.findIdx?_cons,this]⟩
  | false=>
   rw [hb] at h
   simp only [cond_false] at h
   obtain ⟨k,e',h1,h2,h3,h4,h5⟩:=findN_born b l (i+1) j h
   have hne:(e.born == b)=false:=by
    simp only [beq_eq_false_iff_ne,ne_eq]
    intro h;subst h;rw [Nat.beq_refl] at hb;cases hb
   exact ⟨k+1,e',by omega,by simpa using h2,h3,by simp [hne,h4],by simp [List.findIdx?_cons,hne,h5]⟩
theorem rel_cell {N:Nums} {S:Nat→Prop} {r:Nat} {x:Value} (h:Rel N w S β (.ptr r 0 0 0) x):∃b,β r=some b∧x=.pointer (some ⟨b,0,none⟩):=by
 cases h with
 | ptr _ _ _ _ _ b hb=>exact ⟨b,hb,rfl⟩
theorem tup1 {N:Nums} {S:Nat→Prop} {v:V} {x:Value} (h:Rel N w S β v x):Rel N w S β (.tup [v]) (.tuple #[x]):=.tup _ _ _ rfl (fun i c y hc hy=>by
 match i,hc,hy with
 | 0,hc,hy=>simp at hc hy;rw [←hc,←hy];exact h
 | i+1,hc,hy=>simp at hc)
theorem tup2 {N:Nums} {S:Nat→Prop} {v u:V} {x y:Value} (h:Rel N w S β v x) (h2:Rel N w S β u y):Rel N w S β (.tup [v,u]) (.tuple #[x,y]):=.tup _ _ _ rfl (fun i c y hc hy=>by
 match i,hc,hy with
 | 0,hc,hy=>simp at hc hy;rw [←hc,←hy];exact h
 | 1,hc,hy=>simp at hc hy;rw [←hc,←hy];exact h2
 | i+2,hc,hy=>simp at hc)
theorem tup3 {N:Nums} {S:Nat→Prop} {v u t:V} {x y z:Value} (h:Rel N w S β v x) (h2:Rel N w S β u y) (h3:Rel N w S β t z):Rel N w S β (.tup [v,u,t]) (.tuple #[x,y,z]):=.tup _ _ _ rfl (fun i c y hc hy=>by
 match i,hc,hy with
 | 0,hc,hy=>simp at hc hy;rw [←hc,←hy];exact h
 | 1,hc,hy=>simp at hc hy;rw [←hc,←hy];exact h2
 | 2,hc,hy=>simp at hc hy;rw [←hc,←hy];exact h3
 | i+3,hc,hy=>simp at hc)
theorem iter_upd (hh:HeapR A C.N w β h) {r b:Nat} {k k':Blk} (hk:h r=some k) (hb:β r=some b) {o o':Obj} (hw:w.heap[b]?=some o) (ho:∀cells T fz,o≠.cells cells T fz) {e:Eff} (h1:e.upd=[(r,some k')]) (h2:e.new=[]) {x:Value} {w1:World} (hw1:w1=w∨w1=w.drew)
    (hx:∀(S:Nat→Prop) (w':World),(∀c,Imm A w β h c→S c)→(∀c,Imm A w β h c→w'.heap[c]?=w.heap[c]?)→(∀b m,Room w b m→Room w' b m)→Rel C.N w' S β e.v x)
    (hk':∀(S:Nat→Prop) (w':World),w'.heap[b]?=some o'→BlkR C.N w' S β k' b):EffOk A C.N w β h n e x (Go.ChangeMaps.setBlock w1 b o'):=by
 have e1:(Go.ChangeMaps.setBlock w1 b o').heap=w.heap.setIfInBounds b o':=by rcases hw1 with rfl|rfl <;> rfl
 have hlt:=(Array.getElem?_eq_some_iff.1 hw).1
 have hother:∀c,c≠b→(Go.ChangeMaps.setBlock w1 b o').heap[c]?=w.heap[c]?:=fun c hc=>by rw [e1];exact Array.getElem?_setIfInBounds_ne (fun e=>hc e.symm)
 have hroom:∀b' m,Room w b' m→Room (Go.ChangeMaps.setBlock w1 b o') b' m:=fun b' m ⟨cells,T,fz,r1,r2⟩=>by
  refine ⟨cells,T,fz,?_,r2⟩
  rw [hother b' (fun e=>by subst e;rw [hw] at r1;simp only [Option.some.injEq] at r1;exact ho _ _ _ r1)];exact r1
 have himm:∀c,Imm A w β h c→(Go.ChangeMaps.setBlock w1 b o').heap[c]?=w.heap[c]?:=fun c hc=>hother c (fun e=>by
  subst e
  obtain ⟨cells,T,fz,r1⟩:=hc.arr
  rw [hw] at r1;simp only [Option.some.injEq] at r1;exact ho _ _ _ r1)
 exact effOk_upd (b:=b) hh hk hb h1 h2 hother hroom (by rw [e1];simp) (by rcases hw1 with rfl|rfl <;> rfl) (by rcases hw1 with rfl|rfl <;> rfl) (by rcases hw1 with rfl|rfl <;> rfl) (fun S hS=>hk' S _ (by rw [e1,Array.getElem?_setIfInBounds_self_of_lt hlt])) (fun S hS=>hx S _ hS himm hroom)
theorem nextE_runs (hh:HeapR A C.N w β h) {x:V} {px:Value} (hx:Rel C.N w (Imm A w β h) β x px) {l:List Eff} (he:nextE h x=some l) {ty:TypeId}:∃e∈l,Runs A C w β h n e (do pure (.value (←Instr.next px false ty))):=by
 unfold nextE at he
 split at he
 case h_2=>cases he
 rename_i r
 obtain ⟨b,hb,rfl⟩:=rel_cell hx
 split at he
 ·rename_i since seen last hr
  simp only [Option.some.injEq] at he
  subst he
  obtain ⟨b',q1,q2,q,q3,q4⟩:=hh.at' r _ hr
  rw [hb] at q1;cases q1
  simp only at q4
  subst q4
  refine ⟨_,List.mem_singleton_self _,runs_same hh rfl rfl (x:=.tuple #[.bool false]) ?_ (tup1 (.bool _ _))⟩
  simp [Instr.next,getObj,Sem.run_bind,Sem.run,q3]
 ·rename_i m since seen last hr
  split at he
  case h_2=>cases he
  rename_i es bs clk hm
  split at he
  case isFalse=>cases he
  rename_i hcond
  obtain ⟨b',q1,q2,q,q3,c,q4,q5⟩:=hh.at' r _ hr
  rw [hb] at q1;cases q1
  subst q5
  obtain ⟨c',p1,p2,arr,p3,p4,p5,p6⟩:=hh.at' m _ hm
  rw [q4] at p1;cases p1
  have hold:∀x∈arr.toList,x.born < since:=fun x hx=>allLt_spec hcond.1 x.born (by rw [←p5];exact List.mem_map.2 ⟨x,hx,rfl⟩)
  obtain ⟨c1,c2⟩:=candsN_mem (R:=fun p e=>Rel C.N w (Imm A w β h) β p.1 e.key∧Rel C.N w (Imm A w β h) β p.2 e.val) (seen:=seen) arr.toList es (by simpa using p4) (fun i p e h1 h2=>p6 i p e h1 (by simpa using h2))
  rw [p5] at c1 c2
  have hleft:∀e,e∈(leftOf arr seen.toArray).toList↔e∈arr.toList∧memN e.born seen=false:=fun e=>by
   rw [memN_contains]
   simp [leftOf]
  rcases run_next_at (P:=C.T.P) w ty b c since last seen.toArray arr clk q3 p3 hold (by have:=hcond.2;rw [Nat.ble_eq] at this;exact this) with ⟨g1,g2⟩|⟨e,g1,w1,g2,g3⟩
  ·have hnil:candsN seen bs es=[]:=by
     cases hc:candsN seen bs es with
     | nil=>rfl
     | cons c' cs=>
      obtain ⟨e,e1,e2⟩:=c2 c' (by rw [hc];simp)
      have:=(hleft e).2 ⟨e1,e2⟩
      have h0:(leftOf arr seen.toArray).toList=[]:=by rw [←List.length_eq_zero_iff];simpa using g1
      rw [h0] at this;simp at this
   rw [hnil] at he
   simp only [Option.some.injEq] at he
   subst he
   exact ⟨_,List.mem_singleton_self _,runs_same hh rfl rfl g2 (tup1 (.bool _ _))⟩
  ·obtain ⟨k1,k2⟩:=(hleft e).1 g1
   obtain ⟨p,k3,k4⟩:=c1 e k1 k2
   cases hc:candsN seen bs es with
   | nil=>rw [hc] at k3;simp at k3
   | cons c' cs=>
    rw [hc] at he k3
    simp only [Option.some.injEq] at he
    subst he
    refine ⟨_,List.mem_map.2 ⟨_,k3,rfl⟩,.tuple #[.bool true,e.key,e.val],_,.inl (by rw [Sem.run_bind,g3];rfl),iter_upd (k':=.iter (some m) since (seen++[e.born]) clk) hh hr hb q3 (fun _ _ _ h=>by cases h) rfl rfl g2 (fun S w' s1 s2 s3=>tup3 (.bool _ _) (k4.1.mono s1 s2 s3 (fun _ _ h=>h)) (k4.2.mono s1 s2 s3 (fun _ _ h=>h))) (fun S w' hw'=>⟨some c,?_,c,q4,rfl⟩)⟩
    rw [hw'];simp
 ·cases he
theorem mnext_runs (hh:HeapR A C.N w β h) {x:V} {px:Value} (hx:Rel C.N w (Imm A w β h) β x px) {e:Eff} (he:mnextV h x=some e) {ty:TypeId}:Runs A C w β h n e (do pure (.value (←Instr.next px false ty))):=by
 unfold mnextV at he
 split at he
 ·rename_i e' hl
  simp only [Option.some.injEq] at he
  subst he
  obtain ⟨e,h1,h2⟩:=nextE_runs (n:=n) hh hx hl (ty:=ty)
  simp only [List.mem_singleton] at h1
  subst h1
  exact h2
 ·cases he
theorem mentry_runs (hh:HeapR A C.N w β h) {x:V} {px:Value} (hx:Rel C.N w (Imm A w β h) β x px) {e:Eff} (he:mentryV h x=some e):Runs A C w β h n e (do pure (.value (←Instr.entry px))):=by
 unfold mentryV at he
 split at he
 case h_2=>cases he
 rename_i r
 obtain ⟨b,hb,rfl⟩:=rel_cell hx
 split at he
 case h_2=>cases he
 rename_i m since seen last hr
 split at he
 case h_2=>cases he
 rename_i es bs clk hm
 split at he
 case isFalse=>cases he
 rename_i hcl
 simp only [Option.bind_eq_some_iff,Option.some.injEq] at he
 obtain ⟨st,hst,i,hi,p,hp,rfl⟩:=he
 obtain ⟨b',q1,q2,q,q3,c,q4,q5⟩:=hh.at' r _ hr
 rw [hb] at q1;cases q1
 subst q5
 obtain ⟨c',p1,p2,arr,p3,p4,p5,p6⟩:=hh.at' m _ hm
 rw [q4] at p1;cases p1
 rw [←p5] at hi
 obtain ⟨k,e,e1,e2,e3,e4,e5⟩:=findN_born st arr.toList 0 i hi
 rw [Nat.zero_add] at e1
 subst e1
 obtain ⟨r1,r2⟩:=p6 i p e hp (by simpa using e2)
 have hback:seen.toArray.back?=some st:=by rw [←hst];simp
 have hfind:arr.find? (fun x=>x.born == st)=some e:=by rw [←Array.find?_toList];exact e4
 refine runs_same hh rfl rfl (x:=.tuple #[e.key,e.val]) ?_ (tup2 r1 r2)
 simp [Instr.entry,getObj,Sem.run_bind,Sem.run,q3,p3,hback,hfind,hcl]
theorem snext_runs (hh:HeapR A C.N w β h) {x:V} {px:Value} (hx:Rel C.N w (Imm A w β h) β x px) {e:Eff} (he:snextV h x=some e) {ty:TypeId}:Runs A C w β h n e (do pure (.value (←Instr.next px true ty))):=by
 unfold snextV at he
 split at he
 case h_2=>cases he
 rename_i r
 obtain ⟨b,hb,rfl⟩:=rel_cell hx
 split at he
 case h_2=>cases he
 rename_i s pos hr
 obtain ⟨b',q1,q2,t,q3,rfl⟩:=hh.at' r _ hr
 rw [hb] at q1;cases q1
 have hsz:t.data.toList.length=t.size:=by rw [Array.length_toList];rfl
 have ht:(⟨t.data.toList.toArray⟩:ByteArray)=t:=by rw [Array.toArray_toList]
 rw [hsz] at he
 split at he
 ·rename_i hlt
  simp only [Option.some.injEq] at he
  subst he
  refine ⟨.tuple #[.bool true,goInt pos,.int .i32 (Utf8.decode t pos).1],_,.inl ?_,iter_upd (k':=.siter t.data.toList (pos+(Utf8.decode ⟨t.data.toList.toArray⟩ pos).2)) (o':=.stringIter t (pos+(Utf8.decode t pos).2)) (w1:=w) hh hr hb q3 (fun _ _ _ h=>by cases h) rfl rfl (.inl rfl) (fun S w' s1 s2 s3=>tup3 (.bool _ _) (.int _ _ _) (by rw [ht];exact .int _ _ _)) (fun S w' hw'=>⟨t,by rw [hw',ht],rfl⟩)⟩
  simp [Instr.next,getObj,setObj,Sem.run_bind,Sem.run,q3,hlt,Go.ChangeMaps.setBlock]
 ·rename_i hlt
  simp only [Option.some.injEq] at he
  subst he
  refine runs_same hh rfl rfl (x:=.tuple #[.bool false]) ?_ (tup1 (.bool _ _))
  simp [Instr.next,getObj,Sem.run_bind,Sem.run,q3,hlt]
theorem mapent_runs (hh:HeapR A C.N w β h) {t kt et:TypeId} (hu:C.T.P.underlying t=some (.map kt et)) {c:Nat} (hc:C.T.keyC kt=some c) {z:V} (hz:C.T.zeroW et=some z) {m k:V} {x y:Value} (hm:Rel C.N w (Imm A w β h) β m x) (hk:Rel C.N w (Imm A w β h) β k y) {e:Eff}
    (he:mapentV h c z m k=some e):Runs A C w β h n e (do pure (.value (←Instr.mapEntry t x y))):=by
 unfold Tr.zeroW at hz
 simp only [Option.bind_eq_some_iff] at hz
 obtain ⟨zv,⟨ti,hti,hzv⟩,hz⟩:=hz
 have hzr:∀{w':World} {S:Nat→Prop},Rel C.N w' S β z zv:=V.of_rel zv z hz
 have hzrun:=run_zero (T:=C.T) hti hzv w
 unfold mapentV at he
 split at he
 case h_2=>cases he
 rename_i a'
 split at he
 case h_2=>cases he
 rename_i es bs clk hkb
 split at he
 case isFalse=>cases he
 rename_i hkv
 simp only [Bool.and_eq_true] at hkv
 simp only [Option.bind_eq_some_iff] at he
 obtain ⟨r,hr,he⟩:=he
 cases hm with
 | mapp _ _ b hb=>
  obtain ⟨b',q1,q2,q3⟩:=hh.at' a' _ hkb
  rw [hb] at q1;cases q1
  obtain ⟨arr,g1,g2,gb,g3⟩:=q3
  have hck:=checkKey_rel (C:=C) hc hk hkv.1 false
  have hset:∀(arr'':Array MapEntry) (c':Nat),(setObj b (.map arr'' c')).run C.T.P w=.ok () { w with heap:=w.heap.setIfInBounds b (.map arr'' c') }:=fun arr'' c'=>run_setM _ g1
  rcases findKey_rel hc hk es arr.toList r (by simpa using g2) (fun j p e h1 h2=>(g3 j p e h1 (by simpa using h2)).1) hr with ⟨h1,h2⟩|⟨j,p,e',h1,h2,h3,h4,h5⟩
  ·subst h1
   simp only [Option.some.injEq] at he
   subst he
   refine ⟨.tuple #[zv,goInt clk],_,.inl ?_,map_upd (arr':=arr.push { key:=y,val:=zv,born:=clk }) (clk':=clk+1) hh hkb hb g1 rfl rfl (fun S w' s1 s2 s3=>tup2 hzr (.int _ _ _)) (by simp [g2]) (by simp [←gb]) (fun S w' s1 s2 s3 i p e hp he=>?_)⟩
   ·unfold Instr.mapEntry
    simp only [Sem.run_bind,run_underlying hu,run_getM g1,Result.andThen_ok,hck,h2,hzrun,hset]
    rfl
   ·rw [List.getElem?_append] at hp
    rw [Array.getElem?_push] at he
    by_cases hi:i=arr.size
    ·rw [if_pos hi] at he
     rw [if_neg (by omega)] at hp
     cases he
     rw [hi,g2,Nat.sub_self] at hp
     simp at hp
     subst hp
     exact ⟨hk.mono s1 s2 s3 (fun _ _ h=>h),hzr⟩
    ·rw [if_neg hi] at he
     have hlt:=(Array.getElem?_eq_some_iff.1 he).1
     rw [if_pos (by omega)] at hp
     exact ⟨(g3 i p e hp he).1.mono s1 s2 s3 (fun _ _ h=>h),(g3 i p e hp he).2.mono s1 s2 s3 (fun _ _ h=>h)⟩
  ·subst h1
   simp only [Option.some.injEq] at he
   subst he
   have h3':arr[j]?=some e':=by simpa using h3
   have hpk:pickV es z (some j)=p.2:=by simp [pickV,h2]
   have hbj:(bs[j]?).getD 0=e'.born:=by rw [←gb];simp [h3']
   rw [hpk,hbj]
   have hks:(Instr.keyThatStays (((arr[j]?).map (·.key)).getD y) y).run C.T.P w=.ok y w:=by
    unfold Instr.keyThatStays
    rw [h3']
    rw [if_pos (by simpa using h5)];rfl
   refine ⟨.tuple #[e'.val,goInt e'.born],_,.inl ?_,map_upd (arr':=arr.modify j fun e=>{ e with key:=y }) (clk':=clk) hh hkb hb g1 rfl rfl (fun S w' s1 s2 s3=>tup2 ((g3 j p e' h2 h3').2.mono s1 s2 s3 (fun _ _ h=>h)) (.int _ _ _)) (by simp [g2]) ((born_modify (l:=arr) (f:=fun e=>{ e with key:=y }) (fun _=>rfl) j).trans gb) (fun S w' s1 s2 s3 i p' e hp he=>?_)⟩
   ·unfold Instr.mapEntry
    simp only [Sem.run_bind,run_underlying hu,run_getM g1,Result.andThen_ok,hck,h4,hks,hset]
    rw [h3'];rfl
   ·rw [List.getElem?_set] at hp
    rw [Array.getElem?_modify] at he
    by_cases hij:j=i
    ·subst hij
     rw [if_pos rfl] at hp he
     rw [if_pos (List.getElem?_eq_some_iff.1 h2).1] at hp
     rw [h3'] at he
     simp at hp he
     subst hp;subst he
     exact ⟨hk.mono s1 s2 s3 (fun _ _ h=>h),(g3 j p e' h2 h3').2.mono s1 s2 s3 (fun _ _ h=>h)⟩
    ·rw [if_neg hij] at hp he
     exact ⟨(g3 i p' e hp he).1.mono s1 s2 s3 (fun _ _ h=>h),(g3 i p' e hp he).2.mono s1 s2 s3 (fun _ _ h=>h)⟩
theorem entstore_runs (hh:HeapR A C.N w β h) {t:TypeId} {m st v:V} {x y z:Value} (hm:Rel C.N w (Imm A w β h) β m x) (hst:Rel C.N w (Imm A w β h) β st y) (hv:Rel C.N w (Imm A w β h) β v z) {e:Eff}
    (he:entstoreV h m st v=some e):Runs A C w β h n e (do Instr.entryStore t x y z;pure .skip):=by
 unfold entstoreV at he
 split at he
 case h_2=>cases he
 rename_i a' bi
 split at he
 case h_2=>cases he
 rename_i es bs clk hkb
 split at he
 case isFalse=>cases he
 rename_i hc
 simp only [Option.bind_eq_some_iff,Option.some.injEq] at he
 obtain ⟨i,hi,p,hp,rfl⟩:=he
 cases hst
 cases hm with
 | mapp _ _ b hb=>
  obtain ⟨b',q1,q2,q3⟩:=hh.at' a' _ hkb
  rw [hb] at q1;cases q1
  obtain ⟨arr,g1,g2,gb,g3⟩:=q3
  rw [←gb] at hi
  obtain ⟨k,e,e1,e2,e3,e4,e5⟩:=findN_born bi.toNat arr.toList 0 i hi
  rw [Nat.zero_add] at e1
  subst e1
  have h3':arr[i]?=some e:=by simpa using e2
  have hfun:(fun x:MapEntry=>(x.born:Int) == bi)=fun x=>x.born == bi.toNat:=by
   funext x
   have:=hc.1
   rw [Bool.eq_iff_iff]
   simp only [beq_iff_eq]
   omega
  have hfi:arr.findIdx? (fun x=>(x.born:Int) == bi)=some i:=by
   rw [hfun,←Array.toArray_toList (xs:=arr),List.findIdx?_toArray];exact e5
  refine ⟨undef,_,.inr ⟨?_,rfl⟩,map_upd (arr':=arr.modify i fun e=>{ e with val:=z }) (clk':=clk) hh hkb hb g1 rfl rfl (fun _ _ _ _ _=>tup_none) (by simp [g2]) ((born_modify (l:=arr) (f:=fun e=>{ e with val:=z }) (fun _=>rfl) i).trans gb) (fun S w' s1 s2 s3 i' p' e' hp' he'=>?_)⟩
  ·unfold Instr.entryStore
   simp only [Sem.run_bind,run_getM g1,Result.andThen_ok,asInt,asIntOf]
   simp only [Sem.run_pure,Result.andThen_ok,hfi,run_setM _ g1]
  ·rw [List.getElem?_set] at hp'
   rw [Array.getElem?_modify] at he'
   by_cases hij:i=i'
   ·subst hij
    rw [if_pos rfl] at hp' he'
    rw [if_pos (List.getElem?_eq_some_iff.1 hp).1] at hp'
    rw [h3'] at he'
    simp at hp' he'
    subst hp';subst he'
    exact ⟨(g3 i p e hp h3').1.mono s1 s2 s3 (fun _ _ h=>h),hv.mono s1 s2 s3 (fun _ _ h=>h)⟩
   ·rw [if_neg hij] at hp' he'
    exact ⟨(g3 i' p' e' hp' he').1.mono s1 s2 s3 (fun _ _ h=>h),(g3 i' p' e' hp' he').2.mono s1 s2 s3 (fun _ _ h=>h)⟩
end
end Go.Proofs.YtigdhgbkgfagiaaGreat
namespace Go.Proofs.YtigdhgbkgfagiaaGreat
section
variable {A:Nat→Prop} {C:Ctx} {w:World} {β:Nat→Option Nat} {h:Nat→Option Blk} {n:Nat} {ρ:AOpd→Option V} {a:Act}
theorem part_rel {S:Nat→Prop} {t:TypeId} {k:Nat} {g:Bool} (hk:C.T.size t=some k) (hg:C.T.isAgg t=some g) {cs:List V} {ys:Array Value} (hc:CellsR C.N w S β cs ys) {off:Nat} {v:V} (hv:takeCells cs off k (!g)=some v) :
    ∃y,(part t ys off).run C.T.P w=.ok y w∧Rel C.N w S β v y:=by
 rcases takeCells_spec hv with ⟨h1,h2⟩|⟨h1,h2,h3⟩|⟨h1,h2,h3⟩
 ·have hgf:g=false:=by simpa using h1
  subst hgf
  obtain ⟨y,q1,q2,q3⟩:=hc.get h2
  refine ⟨y,?_,q3⟩
  unfold part
  rw [Sem.run_bind,run_isAgg' hg w]
  simp [q1]
 ·have hgt:g=true:=by simpa using h1
  subst hgt
  refine ⟨.agg (ys.extract off (off+k)),?_,?_⟩
  ·unfold part
   rw [Sem.run_bind,run_isAgg' hg w,Result.andThen_ok,if_pos rfl,Sem.run_bind,run_sizeOf' hk w]
   rfl
  ·rw [h2]
   have hsz:=hc.1
   have hget:∀i,(ys.extract off (off+k))[i]?=if i < k then ys[off+i]? else none:=fun i=>by
    rw [Array.getElem?_extract]
    by_cases hi:i < k
    ·rw [if_pos (by omega),if_pos hi]
    ·rw [if_neg (by omega),if_neg hi]
   refine .agg _ _ _ (by simp;omega) (fun i y hy=>?_) (fun i c y hci hy=>?_)
   ·rw [hget] at hy
    split at hy
    ·exact hc.2.1 _ _ hy
    ·cases hy
   ·rw [hget] at hy
    rw [List.getElem?_take] at hci
    split at hy
    ·rename_i hi
     rw [if_pos hi,List.getElem?_drop] at hci
     exact hc.2.2 _ _ _ hci hy
    ·cases hy
 ·have hgt:g=true:=by simpa using h1
  subst hgt
  subst h2;subst h3
  refine ⟨.agg (ys.extract off (off+0)),?_,?_⟩
  ·unfold part
   rw [Sem.run_bind,run_isAgg' hg w,Result.andThen_ok,if_pos rfl,Sem.run_bind,run_sizeOf' hk w]
   rfl
  ·refine .agg _ _ _ (by simp;omega) (fun i y hy=>?_) (fun i c y hc=>by simp at hc)
   rw [Array.getElem?_eq_none (by simp;omega)] at hy
   cases hy
theorem rel_agg {S:Nat→Prop} {cs:List V} {x:Value} (h:Rel C.N w S β (.agg cs) x):∃ys,x=.agg ys∧CellsR C.N w S β cs ys:=by
 cases h with
 | agg _ _ ys hl h1 h2=>exact ⟨ys,rfl,hl,h1,h2⟩
theorem cellsOf_size {T:Tr} {e:TypeId} {k:Nat} (hk:T.size e=some k):T.P.cellsOf e=k∧∃i,T.P.info? e=some i:=by
 unfold Tr.size at hk
 cases hq:T.P.info? e with
 | none=>rw [hq] at hk;cases hk
 | some i=>rw [hq] at hk;simp at hk;subst hk;exact ⟨by simp [Program.cellsOf,hq],i,rfl⟩
theorem items_runs {S:Nat→Prop} {e:TypeId} {k d:Nat} {g:Bool} {es:Shp} (hk:C.T.size e=some k) (hg:C.T.isAgg e=some g) {cs ds:List V} {xs ys:Array Value} (hx:CellsR C.N w S β cs xs) (hy:CellsR C.N w S β ds ys)
    (he:∀(x y:V) (X Y:Value) (b:Bool),eqS es x y=some b→Rel C.N w S β x X→Rel C.N w S β y Y→(Op.equalIn d e X Y).run C.T.P w=.ok b w):∀(n i:Nat) (b:Bool),
    eqLoop (fun i=>(takeCells cs (i*k) k (!g)).bind fun a=>(takeCells ds (i*k) k (!g)).bind fun b=>eqS es a b) n i=some b→(Op.eqItems d e k xs ys (List.range' i n)).run C.T.P w=.ok b w
 | 0,i,b,h=>by
  simp [eqLoop] at h;subst h;simp [Op.eqItems]
 | n+1,i,b,h=>by
  simp only [eqLoop] at h
  rw [List.range'_succ]
  have hstep:∀r,((takeCells cs (i*k) k (!g)).bind fun a=>(takeCells ds (i*k) k (!g)).bind fun b=>eqS es a b)=some r→∃X Y,(part e xs (i*k)).run C.T.P w=.ok X w∧(part e ys (i*k)).run C.T.P w=.ok Y w∧(Op.equalIn d e X Y).run C.T.P w=.ok r w:=fun r hr=>by
   simp only [Option.bind_eq_some_iff] at hr
   obtain ⟨a,ha,b',hb',hr⟩:=hr
   obtain ⟨X,p1,p2⟩:=part_rel hk hg hx ha
   obtain ⟨Y,q1,q2⟩:=part_rel hk hg hy hb'
   exact ⟨X,Y,p1,q1,he _ _ _ _ _ hr p2 q2⟩
  split at h
  ·rename_i hr
   obtain ⟨X,Y,p1,p2,p3⟩:=hstep true hr
   have ih:=items_runs hk hg hx hy he n (i+1) b h
   simp [Op.eqItems,Sem.run_bind,p1,p2,p3,ih]
  ·rename_i hne
   obtain ⟨X,Y,p1,p2,p3⟩:=hstep b h
   cases b with
   | true=>exact absurd h hne
   | false=>simp [Op.eqItems,Sem.run_bind,p1,p2,p3]
theorem fields_runs {S:Nat→Prop} {d m:Nat} {cs ds:List V} {xs ys:Array Value} (hx:CellsR C.N w S β cs xs) (hy:CellsR C.N w S β ds ys)
    (he:∀(t:TypeId) (s:Shp) (x y:V) (X Y:Value) (b:Bool),C.T.shape m t=some s→eqS s x y=some b→Rel C.N w S β x X→Rel C.N w S β y Y→(Op.equalIn d t X Y).run C.T.P w=.ok b w):∀(fs:List Field) (s:Shp) (b:Bool),
    C.T.shapeFs (C.T.shape m) fs=some s→eqS s (.agg cs) (.agg ds)=some b→(Op.eqFields d xs ys fs).run C.T.P w=.ok b w
 | [],s,b,hs,h=>by
  simp [Tr.shapeFs] at hs;subst hs
  simp [eqS] at h;subst h;simp [Op.eqFields]
 | f::fs,s,b,hs,h=>by
  simp only [Tr.shapeFs] at hs
  split at hs
  ·cases hs
  ·rename_i hname
   simp only [Option.bind_eq_some_iff,Option.map_eq_some_iff] at hs
   obtain ⟨k,hk,g,hg,s1,hs1,s2,hs2,rfl⟩:=hs
   simp only [eqS] at h
   have hstep:∀r,((takeCells cs f.offset k (!g)).bind fun a=>(takeCells ds f.offset k (!g)).bind fun b=>eqS s1 a b)=some r→∃X Y,(part f.type xs f.offset).run C.T.P w=.ok X w∧(part f.type ys f.offset).run C.T.P w=.ok Y w∧(Op.equalIn d f.type X Y).run C.T.P w=.ok r w:=fun r hr=>by
    simp only [Option.bind_eq_some_iff] at hr
    obtain ⟨a,ha,b',hb',hr⟩:=hr
    obtain ⟨X,p1,p2⟩:=part_rel hk hg hx ha
    obtain ⟨Y,q1,q2⟩:=part_rel hk hg hy hb'
    exact ⟨X,Y,p1,q1,he _ _ _ _ _ _ _ hs1 hr p2 q2⟩
   split at h
   ·rename_i hr
    obtain ⟨X,Y,p1,p2,p3⟩:=hstep true hr
    have ih:=fields_runs hx hy he fs s2 b hs2 h
    simp [Op.eqFields,hname,Sem.run_bind,p1,p2,p3,ih]
   ·rename_i hne
    obtain ⟨X,Y,p1,p2,p3⟩:=hstep b h
    cases b with
    | true=>exact absurd h hne
    | false=>simp [Op.eqFields,hname,Sem.run_bind,p1,p2,p3]
theorem eqS_runs {S:Nat→Prop}:∀(m d:Nat) (t:TypeId) (s:Shp) (x y:V) (X Y:Value) (b:Bool),C.T.shape m t=some s→eqS s x y=some b→Rel C.N w S β x X→Rel C.N w S β y Y→(Op.equalIn (d+m) t X Y).run C.T.P w=.ok b w
 | 0,d,t,s,x,y,X,Y,b,hs,h,hx,hy=>by simp [Tr.shape] at hs
 | m+1,d,t,s,x,y,X,Y,b,hs,h,hx,hy=>by
  simp only [Tr.shape] at hs
  split at hs
  ·rename_i n e hu
   simp only [Option.bind_eq_some_iff,Option.map_eq_some_iff] at hs
   obtain ⟨k,hk,g,hg,es,hes,rfl⟩:=hs
   cases x <;> cases y <;> simp only [eqS] at h <;> first|(cases h;done)|skip
   rename_i cs ds
   obtain ⟨xs,rfl,hcx⟩:=rel_agg hx
   obtain ⟨ys,rfl,hcy⟩:=rel_agg hy
   obtain ⟨e1,i,hi⟩:=cellsOf_size hk
   rw [show d+(m+1)=(d+m)+1 by omega,run_equalIn_array w (d+m) xs ys hu hi,e1,List.range_eq_range']
   exact items_runs hk hg hcx hcy (fun x y X Y b h1 h2 h3=>eqS_runs m d e es x y X Y b hes h1 h2 h3) n 0 b h
  ·rename_i fs hu
   split at hs
   ·rename_i hp
    have hagg:∃cs ds,x=.agg cs∧y=.agg ds:=by
     cases hfs:fs.toList with
     | nil=>
      rw [hfs] at hs;simp [Tr.shapeFs] at hs;subst hs
      cases x <;> cases y <;> simp only [eqS] at h <;> first|(cases h;done)|exact ⟨_,_,rfl,rfl⟩
     | cons f r=>
      rw [hfs] at hs
      simp only [Tr.shapeFs] at hs
      split at hs
      ·cases hs
      ·simp only [Option.bind_eq_some_iff,Option.map_eq_some_iff] at hs
       obtain ⟨_,_,_,_,_,_,_,_,rfl⟩:=hs
       cases x <;> cases y <;> simp only [eqS] at h <;> first|(cases h;done)|exact ⟨_,_,rfl,rfl⟩
    obtain ⟨cs,ds,rfl,rfl⟩:=hagg
    obtain ⟨xs,rfl,hcx⟩:=rel_agg hx
    obtain ⟨ys,rfl,hcy⟩:=rel_agg hy
    have hfo:C.T.P.fieldsOf t=fs:=by simp [Program.fieldsOf,hu]
    rw [show d+(m+1)=(d+m)+1 by omega,run_equalIn_struct w (d+m) t xs ys (by rw [hfo];exact hu) hp,hfo]
    exact fields_runs hcx hcy (fun t s x y X Y b h0 h1 h2 h3=>eqS_runs m d t s x y X Y b h0 h1 h2 h3) fs.toList s b hs h
   ·cases hs
  ·simp only [Option.map_eq_some_iff] at hs
   obtain ⟨c,hc,rfl⟩:=hs
   exact leaf_runs hc hx hy h (d+m)
theorem shape_leaf (m:Nat) (t:TypeId) (c:Nat) (hs:C.T.shape (m+1) t=some (.leaf c)) (hag:C.T.isAgg t=some true):False:=by
 simp only [Tr.shape] at hs
 split at hs
 ·simp only [Option.bind_eq_some_iff,Option.map_eq_some_iff] at hs
  obtain ⟨_,_,_,_,_,_,e⟩:=hs;cases e
 ·split at hs
  ·rename_i fs _ _
   cases hfs:fs.toList with
   | nil=>rw [hfs] at hs;simp [Tr.shapeFs] at hs
   | cons f r=>
    rw [hfs] at hs
    simp only [Tr.shapeFs] at hs
    split at hs
    ·cases hs
    ·simp only [Option.bind_eq_some_iff,Option.map_eq_some_iff] at hs
     obtain ⟨_,_,_,_,_,_,_,_,e⟩:=hs;cases e
  ·cases hs
 ·rename_i h1 h2
  unfold Tr.isAgg at hag
  split at hag
  ·rename_i hq;exact h2 _ hq
  ·rename_i hq;exact h1 _ _ hq
  ·cases hag
  ·cases hag
theorem acmp_runs (hh:HeapR A C.N w β h) {op:BinOp} {t:TypeId} {x y:Operand} {s:Shp} (hs:C.T.shape 20 t=some s) (hg:C.T.P.eqGuardType C.T.P.depth t=false) (hag:C.T.isAgg t=some true) {vx vy:V} {px py:Value} (hx:Rel C.N w (Imm A w β h) β vx px) (hy:Rel C.N w (Imm A w β h) β vy py) {b:Bool} (hb:eqS s vx vy=some b)
    {neg:Bool} (hneg:op=.eql∧neg=false∨op=.neq∧neg=true):Runs A C w β h n { v:=.bool (if neg then !b else b) } (do pure (.value (←(do eqGuard op t x y px py;Go.binOp op t px py)))):=by
 have hrun:=eqS_runs (w:=w) (β:=β) (S:=Imm A w β h) 20 9980 t s vx vy px py b hs hb hx hy
 have hagg:∃xs ys,px=.agg xs∧py=.agg ys:=by
  have hl:∀c,s≠.leaf c:=fun c e=>by subst e;exact shape_leaf 19 t c hs hag
  cases s with
  | leaf c=>exact absurd rfl (hl c)
  | _=>
   cases vx <;> cases vy <;> simp only [eqS] at hb <;> first|(cases hb;done)|skip
   obtain ⟨xs,rfl,_⟩:=rel_agg hx
   obtain ⟨ys,rfl,_⟩:=rel_agg hy
   exact ⟨xs,ys,rfl,rfl⟩
 obtain ⟨xs,ys,rfl,rfl⟩:=hagg
 have hrun':(Op.equalIn 10000 t (.agg xs) (.agg ys)).run C.T.P w=.ok b w:=hrun
 have hgd:=run_eqGuard_agg (P:=C.T.P) w op t x y xs ys hg
 rcases hneg with ⟨rfl,rfl⟩|⟨rfl,rfl⟩
 ·exact runs_same hh rfl rfl (x:=.bool b) (by rw [Sem.run_bind,hgd,Result.andThen_ok,run_eql_struct,hrun',Result.andThen_ok]) (.bool _ _)
 ·exact runs_same hh rfl rfl (x:=.bool (!b)) (by rw [Sem.run_bind,hgd,Result.andThen_ok,run_neq_struct,hrun',Result.andThen_ok]) (.bool _ _)
theorem builtin_sound (hh:HeapR A C.N w β h) (ho:OpdOk C w (Imm A w β h) β ρ a) {b:Builtin} {ts:List TypeId} {xs:List Operand} {ao:AOp} {ty:TypeId} {cs:Array Bool} (hop:C.T.builtin b ts xs=some ao) {e:Eff} (he:ao.exec0 n h ρ=some e) (hn:e.new≠[]→β n=none) (hhn:e.new≠[]→h n=none) :
    Runs A C w β h n e (builtin b ts.toArray ty cs (xs.map a.eval).toArray):=by
 unfold Tr.builtin at hop
 split at hop
 ·-- len
  rename_i t x
  have hb:builtin .len [t].toArray ty cs ([x].map a.eval).toArray=(do pure (.value (←Builtin.len_ #[t] ty #[a.eval x]))):=rfl
  rw [hb]
  split at hop
  ·rename_i hu
   simp only [Option.map_eq_some_iff] at hop
   obtain ⟨y,hy,rfl⟩:=hop
   simp only [AOp.exec0,Option.bind_eq_some_iff] at he
   obtain ⟨v,hv,he⟩:=he
   have hr:=ho x y v hy hv
   generalize a.eval x=q at hr ⊢
   cases hr with
   | str _ s=>
    simp only [Option.some.injEq] at he
    subst he
    exact runs_same hh rfl rfl (x:=goInt s.size) (by simp [Builtin.len_,run_underlying hu]) (by have:=Rel.int (N:=C.N) (w:=w) (S:=Imm A w β h) β .i64 s.size;simpa [goInt] using this)
   | _=>simp at he
  ·rename_i e' hu
   simp only [Option.map_eq_some_iff] at hop
   obtain ⟨y,hy,rfl⟩:=hop
   simp only [AOp.exec0,Option.bind_eq_some_iff] at he
   obtain ⟨v,hv,he⟩:=he
   have hr:=ho x y v hy hv
   generalize a.eval x=q at hr ⊢
   cases hr with
   | ref _ ab size off len cap b xa c=>
    simp only [Option.some.injEq] at he
    subst he
    exact runs_same hh rfl rfl (x:=goInt len) (by simp [Builtin.len_,run_underlying hu]) (.int _ _ _)
   | lst _ size rows cap aa c b off ys hc=>
    simp only [Option.some.injEq] at he
    subst he
    exact runs_same hh rfl rfl (x:=goInt rows.length) (by simp [Builtin.len_,run_underlying hu]) (.int _ _ _)
   | _=>simp at he
  ·rename_i k' e' hu
   simp only [Option.map_eq_some_iff] at hop
   obtain ⟨y,hy,rfl⟩:=hop
   simp only [AOp.exec0,Option.bind_eq_some_iff] at he
   obtain ⟨v,hv,⟨es,nd⟩,hm,he⟩:=he
   simp only [Option.some.injEq] at he
   subst he
   exact mlen_runs hh hu (ho x y v hy hv) hm
  ·cases hop
 ·rename_i t u x y
  have hb:builtin .delete [t,u].toArray ty cs ([x,y].map a.eval).toArray=(do pure (.value (←Builtin.delete_ #[t,u] ty #[a.eval x,a.eval y]))):=rfl
  rw [hb]
  split at hop
  ·rename_i k' e' hu
   simp only [Option.bind_eq_some_iff,Option.map_eq_some_iff] at hop
   obtain ⟨c,hc,x',hx,y',hy,rfl⟩:=hop
   simp only [AOp.exec0,Option.bind_eq_some_iff] at he
   obtain ⟨vx,hvx,vy,hvy,he⟩:=he
   exact mdel_runs hh hu hc (ho x x' vx hx hvx) (ho y y' vy hy hvy) he
  ·cases hop
 ·rename_i t x
  have hb:builtin .cap [t].toArray ty cs ([x].map a.eval).toArray=(do pure (.value (←Builtin.cap_ #[t] ty #[a.eval x]))):=rfl
  rw [hb]
  split at hop
  ·rename_i e' hu
   simp only [Option.map_eq_some_iff] at hop
   obtain ⟨y,hy,rfl⟩:=hop
   simp only [AOp.exec0,Option.bind_eq_some_iff] at he
   obtain ⟨v,hv,he⟩:=he
   have hr:=ho x y v hy hv
   generalize a.eval x=q at hr ⊢
   cases hr with
   | ref _ ab size off len cap b xa c hb hc=>
    cases cap with
    | none=>simp at he
    | some cc=>
     simp only [Option.some.injEq] at he
     subst he
     have:=hc cc rfl
     subst this
     exact runs_same hh rfl rfl (x:=goInt c) (by simp [Builtin.cap_,run_underlying hu]) (.int _ _ _)
   | lst _ size rows cap aa c b off ys hc=>
    cases cap with
    | none=>simp at he
    | some cc=>
     simp only [Option.some.injEq] at he
     subst he
     have:=hc cc rfl
     subst this
     exact runs_same hh rfl rfl (x:=goInt c) (by simp [Builtin.cap_,run_underlying hu]) (.int _ _ _)
   | _=>simp at he
  ·cases hop
 ·rename_i t u x y
  have hb:builtin .append [t,u].toArray ty cs ([x,y].map a.eval).toArray=(do pure (.value (←Builtin.append_ #[t,u] ty #[a.eval x,a.eval y]))):=rfl
  rw [hb]
  have key:∀(e':TypeId),C.T.P.underlying t=some (.slice e')→((∃e'',C.T.P.underlying u=some (.slice e''))∨C.T.P.underlying u=some .string)→((C.T.size e').bind fun s=>(C.T.bytes e').bind fun k=>(C.T.zero e').bind fun z=>(C.T.opd x).bind fun a=>(C.T.opd y).bind fun b=>if s=0∨k=0∨z.length≠s then none else some (AOp.append s k a b))=some ao→
      Runs A C w β h n e (do pure (.value (←Builtin.append_ #[t,u] ty #[a.eval x,a.eval y]))):=fun e' ht hu hop=>by
   simp only [Option.bind_eq_some_iff] at hop
   obtain ⟨s,hs,k,hk,z,hz,x',hx,y',hy,hop⟩:=hop
   split at hop
   ·cases hop
   ·rename_i hc
    simp only [Option.some.injEq] at hop
    subst hop
    simp only [AOp.exec0,Option.bind_eq_some_iff] at he
    obtain ⟨vx,hvx,vy,hvy,he⟩:=he
    exact append_runs hh ⟨ht,hu,hs,hk,⟨z,hz,by omega⟩,by omega,by omega⟩ (ho x x' vx hx hvx) (ho y y' vy hy hvy) he hn hhn
  split at hop
  ·rename_i e' e'' h1 h2
   exact key e' h1 (.inl ⟨_,h2⟩) hop
  ·rename_i e' h1 h2
   exact key e' h1 (.inr h2) hop
  ·cases hop
 ·rename_i t u x y
  have hb:builtin .copy [t,u].toArray ty cs ([x,y].map a.eval).toArray=(do pure (.value (←Builtin.copy_ #[t,u] ty #[a.eval x,a.eval y]))):=rfl
  rw [hb]
  have key:∀(e':TypeId),C.T.P.underlying t=some (.slice e')→((C.T.size e').bind fun s=>(C.T.opd x).bind fun a=>(C.T.opd y).bind fun b=>if s=0 then none else some (AOp.copy s a b))=some ao→
      Runs A C w β h n e (do pure (.value (←Builtin.copy_ #[t,u] ty #[a.eval x,a.eval y]))):=fun e' ht hop=>by
   simp only [Option.bind_eq_some_iff] at hop
   obtain ⟨s,hs,x',hx,y',hy,hop⟩:=hop
   split at hop
   ·cases hop
   ·simp only [Option.some.injEq] at hop
    subst hop
    simp only [AOp.exec0,Option.bind_eq_some_iff] at he
    obtain ⟨vx,hvx,vy,hvy,he⟩:=he
    exact copy_runs hh ht hs (ho x x' vx hx hvx) (ho y y' vy hy hvy) he
  split at hop
  ·rename_i e' e'' h1 h2
   exact key e' h1 hop
  ·rename_i e' h1 h2
   exact key e' h1 hop
  ·cases hop
 ·rename_i t x
  have hb:builtin .clear [t].toArray ty cs ([x].map a.eval).toArray=(do pure (.value (←Builtin.clear_ #[t] ty #[a.eval x]))):=rfl
  rw [hb]
  split at hop
  ·rename_i e' hu
   simp only [Option.bind_eq_some_iff] at hop
   obtain ⟨s,hs,z,hz,x',hx,hop⟩:=hop
   split at hop
   ·rename_i hzl
    simp only [Option.some.injEq] at hop
    subst hop
    simp only [AOp.exec0,Option.bind_eq_some_iff] at he
    obtain ⟨vx,hvx,he⟩:=he
    exact clr_runs hh hu hs hz hzl (ho x x' vx hx hvx) he
   ·cases hop
  ·cases hop
 ·simp only [Option.map_eq_some_iff] at hop
  obtain ⟨ys,hys,rfl⟩:=hop
  simp only [AOp.exec0,Option.bind_eq_some_iff] at he
  obtain ⟨vs,hvs,he⟩:=he
  obtain ⟨l1,r1⟩:=evals_rel ho hys hvs
  split at he
  ·rename_i v r
   simp only [Option.bind_eq_some_iff,Option.some.injEq] at he
   obtain ⟨v',hv',rfl⟩:=he
   cases xs with
   | nil=>simp at l1
   | cons x xs=>
    obtain ⟨x',q1,q2⟩:=fold_ints (P:=C.T.P) (w:=w) (fun x y=>if y < x then y else x) Builtin.min2 (fun k x y=>rfl) (vs:=r) (xs:=xs.map a.eval) (x:=a.eval x) (by simpa using l1) (fun i v y h1 h2=>r1 (i+1) v y h1 (by simpa using h2)) (r1 0 v (a.eval x) rfl rfl) hv'
    exact runs_same hh rfl rfl (s:=Builtin.min_ _ ty _) (x:=x') (by simpa [Builtin.min_] using q1) q2
  ·cases he
 ·simp only [Option.map_eq_some_iff] at hop
  obtain ⟨ys,hys,rfl⟩:=hop
  simp only [AOp.exec0,Option.bind_eq_some_iff] at he
  obtain ⟨vs,hvs,he⟩:=he
  obtain ⟨l1,r1⟩:=evals_rel ho hys hvs
  split at he
  ·rename_i v r
   simp only [Option.bind_eq_some_iff,Option.some.injEq] at he
   obtain ⟨v',hv',rfl⟩:=he
   cases xs with
   | nil=>simp at l1
   | cons x xs=>
    obtain ⟨x',q1,q2⟩:=fold_ints (P:=C.T.P) (w:=w) (fun x y=>if y > x then y else x) Builtin.max2 (fun k x y=>rfl) (vs:=r) (xs:=xs.map a.eval) (x:=a.eval x) (by simpa using l1) (fun i v y h1 h2=>r1 (i+1) v y h1 (by simpa using h2)) (r1 0 v (a.eval x) rfl rfl) hv'
    exact runs_same hh rfl rfl (s:=Builtin.max_ _ ty _) (x:=x') (by simpa [Builtin.max_] using q1) q2
  ·cases he
 ·cases hop
theorem ref_some {N:Nums} {S:Nat→Prop} {a s o l:Nat} {cap:Option Nat} {x:Option Addr} {n c:Nat} (h:Rel N w S β (.ref a s o l cap) (.slice x n c)):∃y,x=some y:=by
 cases h with
 | ref _ _ _ _ _ _ b _ _ hb hc hlc hx hm hnn=>exact Option.ne_none_iff_exists'.1 hnn
theorem isnil_runs (hh:HeapR A C.N w β h) {op:BinOp} {t:TypeId} {x y:Operand} {d:TypeDesc} (hu:C.T.P.underlying t=some d) {c:Nat} (hc:nilFits d y=some c) {v:V} {px:Value} (hv:Rel C.N w (Imm A w β h) β v px) {b:Bool} (hb:isnilV c v=some b)
    {neg:Bool} (hneg:op=.eql∧neg=false∨op=.neq∧neg=true):Runs A C w β h n { v:=.bool (if neg then !b else b) } (do pure (.value (←(do eqGuard op t x y px (a.eval y);Go.binOp op t px (a.eval y))))):=by
 have key:∀(ny:Value),eqGuard op t x y px ny=pure ()→(Go.binOp .eql t px ny=(do pure (.bool (←Op.equal t px ny))))→(Go.binOp .neq t px ny=(do pure (.bool (!(←Op.equal t px ny)))))→(Op.equal t px ny).run C.T.P w=.ok b w→
     Runs A C w β h n { v:=.bool (if neg then !b else b) } (do pure (.value (←(do eqGuard op t x y px ny;Go.binOp op t px ny)))):=fun ny h1 h2 h3 h4=>by
  rw [h1]
  rcases hneg with ⟨rfl,rfl⟩|⟨rfl,rfl⟩
  ·rw [h2]
   exact runs_same hh rfl rfl (x:=.bool b) (by simp [h4]) (.bool _ _)
  ·rw [h3]
   exact runs_same hh rfl rfl (x:=.bool (!b)) (by simp [h4]) (.bool _ _)
 have eqv:∀{p q:Value} {z:Bool},(Op.equalIn (9999+1) t p q).run C.T.P w=.ok z w→(Op.equal t p q).run C.T.P w=.ok z w:=fun h=>h
 unfold nilFits at hc
 split at hc
 all_goals (first|(cases hc;done)|skip)
 all_goals simp only [Option.some.injEq] at hc
 all_goals subst hc
 all_goals have hv0:=hv
 all_goals (cases hv <;> simp only [isnilV,Option.some.injEq] at hb <;> first|(cases hb;done)|skip)
 case h_1.lst size rows cap aa c b' off ys hc1 hlc ha hn' hr hy h hz=>
  split at hb
  ·rename_i h0
   split at hb
   ·rename_i h1
    simp only [Option.some.injEq] at hb
    subst hb
    have:=hz.1 h1 h0
    subst this
    exact key _ (by cases op <;> rfl) rfl rfl (eqv (by rw [Op.equalIn,Sem.run_bind,run_underlying hu];rfl))
   ·split at hb
    ·rename_i h1
     simp only [Option.some.injEq] at hb
     subst hb
     obtain ⟨xa,rfl⟩:=Option.ne_none_iff_exists'.1 (hz.2 h1 h0)
     exact key _ (by cases op <;> rfl) rfl rfl (eqv (by rw [Op.equalIn,Sem.run_bind,run_underlying hu];rfl))
    ·cases hb
  ·rename_i h0
   simp only [Option.some.injEq] at hb
   subst hb
   have:=(ha (by omega)).1
   subst this
   exact key _ (by cases op <;> rfl) rfl rfl (eqv (by rw [Op.equalIn,Sem.run_bind,run_underlying hu];rfl))
 case h_1.ref=>
  subst hb
  obtain ⟨xa,rfl⟩:=ref_some hv0
  exact key _ (by cases op <;> rfl) rfl rfl (eqv (by rw [Op.equalIn,Sem.run_bind,run_underlying hu];rfl))
 all_goals subst hb
 all_goals exact key _ (by cases op <;> first|rfl|simp [eqGuard,Act.eval]) rfl rfl (eqv (by rw [Op.equalIn,Sem.run_bind,run_underlying hu];rfl))
theorem exec_sound0 (hh:HeapR A C.N w β h) (ho:OpdOk C w (Imm A w β h) β ρ a) {o:Oper} {ao:AOp} (hop:C.T.op o.op=some ao) {e:Eff} (he:ao.exec0 n h ρ=some e) (hn:e.new≠[]→β n=none) (hhn:e.new≠[]→h n=none):Runs A C w β h n e (execOp a.eval o):=by
 unfold execOp
 cases hq:o.op with
 | move x=>
  rw [hq] at hop
  dsimp only
  simp only [Tr.op,Option.map_eq_some_iff] at hop
  obtain ⟨y,hy,rfl⟩:=hop
  simp only [AOp.exec0,Option.bind_eq_some_iff,Option.some.injEq] at he
  obtain ⟨v,hv,rfl⟩:=he
  exact runs_val hh rfl rfl (ho x y v hy hv)
 | assign x=>
  rw [hq] at hop
  dsimp only
  simp only [Tr.op,Option.map_eq_some_iff] at hop
  obtain ⟨y,hy,rfl⟩:=hop
  simp only [AOp.exec0,Option.bind_eq_some_iff,Option.some.injEq] at he
  obtain ⟨v,hv,rfl⟩:=he
  exact runs_val hh rfl rfl (ho x y v hy hv)
 | pick c x y=>
  rw [hq] at hop
  dsimp only
  simp only [Tr.op,Option.bind_eq_some_iff,Option.some.injEq] at hop
  obtain ⟨c',hc,x',hx,y',hy,rfl⟩:=hop
  simp only [AOp.exec0,Option.bind_eq_some_iff] at he
  obtain ⟨v,hv,he⟩:=he
  have hr:=ho c c' v hc hv
  split at he
  ·simp only [Option.bind_eq_some_iff,Option.some.injEq] at he
   obtain ⟨v',hv',rfl⟩:=he
   have h2:=ho x x' v' hx hv'
   generalize a.eval c=q at hr ⊢
   cases hr
   exact ⟨_,w,.inl (by simp [asBool] <;> rfl),effOk_same hh rfl rfl rfl rfl rfl rfl h2⟩
  ·simp only [Option.bind_eq_some_iff,Option.some.injEq] at he
   obtain ⟨v',hv',rfl⟩:=he
   have h2:=ho y y' v' hy hv'
   generalize a.eval c=q at hr ⊢
   cases hr
   exact ⟨_,w,.inl (by simp [asBool] <;> rfl),effOk_same hh rfl rfl rfl rfl rfl rfl h2⟩
  ·cases he
 | alloc t=>
  rw [hq] at hop
  dsimp only
  simp only [Tr.op,Option.map_eq_some_iff] at hop
  obtain ⟨z,hz,rfl⟩:=hop
  simp only [AOp.exec0,Option.some.injEq] at he
  subst he
  exact alloc_runs hh (hn (by simp)) (hhn (by simp)) hz
 | box t x=>
  rw [hq] at hop
  dsimp only
  simp only [Tr.op,Option.map_eq_some_iff] at hop
  obtain ⟨y,hy,rfl⟩:=hop
  simp only [AOp.exec0,Option.bind_eq_some_iff] at he
  obtain ⟨v,hv,he⟩:=he
  split at he
  ·rename_i hval
   simp only [Option.some.injEq] at he
   subst he
   exact box_runs hh (hn (by simp)) (hhn (by simp)) (ho x y v hy hv) hval
  ·cases he
 | build t ps=>
  rw [hq] at hop
  dsimp only
  have hop0:=hop
  simp only [Tr.op] at hop
  split at hop
  ·simp only [Option.bind_eq_some_iff,Option.map_eq_some_iff] at hop
   obtain ⟨_,_,z,hz,as,has,rfl⟩:=hop
   simp only [AOp.exec0,Option.bind_eq_some_iff,Option.some.injEq] at he
   obtain ⟨vs,hvs,cs,hcs,rfl⟩:=he
   exact build_runs hh ho hop0 hvs hcs
  ·simp only [Option.bind_eq_some_iff,Option.map_eq_some_iff] at hop
   obtain ⟨z,hz,s,hs,as,has,rfl⟩:=hop
   simp only [AOp.exec0,Option.bind_eq_some_iff,Option.some.injEq] at he
   obtain ⟨vs,hvs,cs,hcs,rfl⟩:=he
   exact build_runs hh ho hop0 hvs hcs
  ·cases hop
 | buildSlice t k ps=>
  rw [hq] at hop
  dsimp only
  simp only [Tr.op] at hop
  split at hop
  ·rename_i e' hu
   simp only [Option.bind_eq_some_iff] at hop
   obtain ⟨s,hs,z,hz,as,has,hop⟩:=hop
   split at hop
   ·rename_i hc
    simp only [Option.some.injEq] at hop
    subst hop
    simp only [AOp.exec0,Option.bind_eq_some_iff,Option.some.injEq] at he
    obtain ⟨vs,hvs,rows,hrows,rfl⟩:=he
    exact bslice_runs hh (hn (by simp)) (hhn (by simp)) ho hu hs hz hc.2 hc.1 has hvs hrows
   ·cases hop
  ·cases hop
 | load t x=>
  rw [hq] at hop
  dsimp only
  simp only [Tr.op,Option.bind_eq_some_iff,Option.map_eq_some_iff] at hop
  obtain ⟨k,hk,g,hg,y,hy,rfl⟩:=hop
  simp only [AOp.exec0,Option.bind_eq_some_iff] at he
  obtain ⟨p,hp,he⟩:=he
  exact loadV_runs hh hk hg (ho x y p hy hp) he
 | store t x y=>
  rw [hq] at hop
  dsimp only
  simp only [Tr.op,Option.bind_eq_some_iff,Option.map_eq_some_iff] at hop
  obtain ⟨k,hk,x',hx,y',hy,rfl⟩:=hop
  simp only [AOp.exec0,Option.bind_eq_some_iff] at he
  obtain ⟨p,hp,v,hv,he⟩:=he
  exact storeV_runs hh hk (ho x x' p hx hp) (ho y y' v hy hv) he
 | nilCheck x=>
  rw [hq] at hop
  dsimp only
  simp only [Tr.op,Option.map_eq_some_iff] at hop
  obtain ⟨y,hy,rfl⟩:=hop
  simp only [AOp.exec0,Option.bind_eq_some_iff] at he
  obtain ⟨v,hv,he⟩:=he
  have hr:=ho x y v hy hv
  generalize hvx:a.eval x=q at hr ⊢
  have hr0:=hr
  cases hr with
  | ptr=>simp only [Option.some.injEq] at he;subst he;exact runs_val hh rfl rfl hr0
  | iptr=>simp only [Option.some.injEq] at he;subst he;exact runs_val hh rfl rfl hr0
  | fn=>simp only [Option.some.injEq] at he;subst he;exact runs_val hh rfl rfl hr0
  | iface=>simp only [Option.some.injEq] at he;subst he;exact runs_val hh rfl rfl hr0
  | _=>simp at he
 | binOp op t x y t2=>
  rw [hq] at hop
  dsimp only
  simp only [Tr.op,Option.bind_eq_some_iff] at hop
  obtain ⟨x',hx,y',hy,hop⟩:=hop
  have plain:∀(op':BinOp),op'=op→(AOp.bin op' x' y').exec0 n h ρ=some e→Runs A C w β h n e (do pure (.value (←(do eqGuard op t x y (a.eval x) (a.eval y);Go.binOp op t (a.eval x) (a.eval y))))):=fun op' e0 he=>by
   subst e0
   simp only [AOp.exec0,Option.bind_eq_some_iff,Option.some.injEq] at he
   obtain ⟨vx,hvx,vy,hvy,v,hv,rfl⟩:=he
   exact bin_runs hh (ho x x' vx hx hvx) (ho y y' vy hy hvy) hv
  have bools:∀(neg:Bool),C.T.P.underlying t=some .bool→(op=.eql∧neg=false∨op=.neq∧neg=true)→(AOp.beq neg x' y').exec0 n h ρ=some e→Runs A C w β h n e (do pure (.value (←(do eqGuard op t x y (a.eval x) (a.eval y);Go.binOp op t (a.eval x) (a.eval y))))):=fun neg hu hneg he=>by
   simp only [AOp.exec0,Option.bind_eq_some_iff] at he
   obtain ⟨vx,hvx,vy,hvy,he⟩:=he
   have h1:=ho x x' vx hx hvx
   have h2:=ho y y' vy hy hvy
   generalize a.eval x=qx at h1 ⊢
   generalize a.eval y=qy at h2 ⊢
   cases h1 with
   | bool _ p=>
    cases h2 with
    | bool _ q=>
     simp only [Option.some.injEq] at he
     subst he
     have hg:eqGuard op t x y (.bool p) (.bool q)=pure ():=by cases op <;> rfl
     rw [hg]
     rcases hneg with ⟨rfl,rfl⟩|⟨rfl,rfl⟩
     ·exact runs_same hh rfl rfl (x:=.bool (p == q)) (by simp [run_eql_bool w t p q hu]) (.bool _ _)
     ·exact runs_same hh rfl rfl (x:=.bool (!(p == q))) (by simp [run_neq_bool w t p q hu]) (.bool _ _)
    | _=>simp at he
   | _=>simp at he
  split at hop
  ·split at hop
   ·rename_i hu
    simp only [Option.some.injEq] at hop
    subst hop
    exact bools _ hu (.inl ⟨rfl,rfl⟩) he
   ·simp only [Option.some.injEq] at hop
    subst hop
    exact plain _ rfl he
   ·simp only [Option.some.injEq] at hop
    subst hop
    exact plain _ rfl he
   ·rename_i d hu
    split at hop
    ·rename_i c hc
     simp only [Option.some.injEq] at hop
     subst hop
     simp only [AOp.exec0,Option.bind_eq_some_iff,Option.some.injEq] at he
     obtain ⟨vx,hvx,b,hb,rfl⟩:=he
     exact isnil_runs hh hu hc (ho x x' vx hx hvx) hb (.inl ⟨rfl,rfl⟩)
    ·split at hop
     ·rename_i hgg
      simp only [Option.map_eq_some_iff] at hop
      obtain ⟨s,hs,rfl⟩:=hop
      simp only [AOp.exec0,Option.bind_eq_some_iff,Option.some.injEq] at he
      obtain ⟨vx,hvx,vy,hvy,b,hb,rfl⟩:=he
      exact acmp_runs hh hs hgg.1 hgg.2 (ho x x' vx hx hvx) (ho y y' vy hy hvy) hb (.inl ⟨rfl,rfl⟩)
     ·cases hop
   ·cases hop
  ·split at hop
   ·rename_i hu
    simp only [Option.some.injEq] at hop
    subst hop
    exact bools _ hu (.inr ⟨rfl,rfl⟩) he
   ·simp only [Option.some.injEq] at hop
    subst hop
    exact plain _ rfl he
   ·simp only [Option.some.injEq] at hop
    subst hop
    exact plain _ rfl he
   ·rename_i d hu
    split at hop
    ·rename_i c hc
     simp only [Option.some.injEq] at hop
     subst hop
     simp only [AOp.exec0,Option.bind_eq_some_iff,Option.some.injEq] at he
     obtain ⟨vx,hvx,b,hb,rfl⟩:=he
     exact isnil_runs hh hu hc (ho x x' vx hx hvx) hb (.inr ⟨rfl,rfl⟩)
    ·split at hop
     ·rename_i hgg
      simp only [Option.map_eq_some_iff] at hop
      obtain ⟨s,hs,rfl⟩:=hop
      simp only [AOp.exec0,Option.bind_eq_some_iff,Option.some.injEq] at he
      obtain ⟨vx,hvx,vy,hvy,b,hb,rfl⟩:=he
      exact acmp_runs hh hs hgg.1 hgg.2 (ho x x' vx hx hvx) (ho y y' vy hy hvy) hb (.inr ⟨rfl,rfl⟩)
     ·cases hop
   ·cases hop
  ·simp only [Option.some.injEq] at hop
   subst hop
   exact plain _ rfl he
 | unOp op t x=>
  rw [hq] at hop
  dsimp only
  simp only [Tr.op,Option.map_eq_some_iff] at hop
  obtain ⟨y,hy,rfl⟩:=hop
  simp only [AOp.exec0,Option.bind_eq_some_iff,Option.some.injEq] at he
  obtain ⟨v,hv,v',hv',rfl⟩:=he
  exact un_runs hh (ho x y v hy hv) hv'
 | convert s d x=>
  rw [hq] at hop
  dsimp only
  simp only [Tr.op] at hop
  split at hop
  ·rename_i k hs hd
   simp only [Option.map_eq_some_iff] at hop
   obtain ⟨y,hy,rfl⟩:=hop
   simp only [AOp.exec0,Option.bind_eq_some_iff] at he
   obtain ⟨v,hv,he⟩:=he
   have hr:=ho x y v hy hv
   generalize a.eval x=q at hr ⊢
   cases hr with
   | int _ j m=>
    simp only [Option.some.injEq] at he
    subst he
    exact runs_same hh rfl rfl (x:=.int _ _) (by simp [convert,run_underlying hs,run_underlying hd,Conv.intToInt] <;> rfl) (.int _ _ _)
   | _=>simp at he
  ·rename_i hs hd
   simp only [Option.map_eq_some_iff] at hop
   obtain ⟨y,hy,rfl⟩:=hop
   simp only [AOp.exec0,Option.bind_eq_some_iff] at he
   obtain ⟨v,hv,he⟩:=he
   have hr:=ho x y v hy hv
   generalize a.eval x=q at hr ⊢
   cases hr with
   | str _ b=>
    simp only [Option.some.injEq] at he
    subst he
    exact runs_same hh rfl rfl (x:=.string b) (by simp [convert,run_underlying hs,run_underlying hd]) (.str _ _)
   | _=>simp at he
  ·rename_i e' hs hd
   split at hop
   ·rename_i hu8
    simp only [Option.map_eq_some_iff] at hop
    obtain ⟨y,hy,rfl⟩:=hop
    simp only [AOp.exec0,Option.bind_eq_some_iff] at he
    obtain ⟨v,hv,he⟩:=he
    have hr:=ho x y v hy hv
    have hu:C.T.P.underlying e'=some (.int .u8):=by
     unfold Tr.isU8 at hu8
     split at hu8
     ·assumption
     ·cases hu8
    generalize a.eval x=q at hr ⊢
    cases hr with
    | str _ b=>
     simp only [Option.some.injEq] at he
     subst he
     exact bytes_runs hh (hn (by simp)) (hhn (by simp)) hs hd hu b
    | _=>simp at he
   ·cases hop
  ·rename_i e' hs hd
   split at hop
   ·rename_i hu8
    simp only [Option.map_eq_some_iff] at hop
    obtain ⟨y,hy,rfl⟩:=hop
    simp only [AOp.exec0,Option.bind_eq_some_iff] at he
    obtain ⟨v,hv,u1,hu1,⟨rows,nd⟩,hrows,s',hs',he⟩:=he
    simp only [Option.some.injEq] at he
    subst he
    have hr:=ho x y v hy hv
    have hu:C.T.P.underlying e'=some (.int .u8):=by
     unfold Tr.isU8 at hu8
     split at hu8
     ·assumption
     ·cases hu8
    refine string_runs hh hs hd hu hr ?_ hrows hs'
    generalize a.eval x=q at hr ⊢
    cases hr with
    | lst=>exact ⟨_,_,_,rfl⟩
    | ref=>exact ⟨_,_,_,rfl⟩
    | str=>simp at hu1
    | _=>simp [rowsOf] at hrows
   ·cases hop
  ·cases hop
 | makeInterface t x=>
  rw [hq] at hop
  dsimp only
  simp only [Tr.op] at hop
  split at hop
  ·cases hop
  ·cases hop
  ·rename_i d hnot hu
   simp only [Option.bind_eq_some_iff,Option.map_eq_some_iff] at hop
   obtain ⟨k,hk,y,hy,rfl⟩:=hop
   simp only [AOp.exec0,Option.bind_eq_some_iff,Option.some.injEq] at he
   obtain ⟨v,hv,rfl⟩:=he
   have hr:=ho x y v hy hv
   refine runs_same hh rfl rfl (x:=.iface t (a.eval x)) ?_ (.iface _ k t (C.tys t k hk) v _ hr)
   unfold Instr.makeInterface
   rw [Sem.run_bind,run_underlying hu w]
   cases d <;> first|rfl|exact absurd rfl (hnot _)
 | makeFunc f first caps=>
  rw [hq] at hop
  dsimp only
  cases f with
  | func f=>
   simp only [Tr.op,Option.bind_eq_some_iff,Option.map_eq_some_iff] at hop
   obtain ⟨k,hk,fs,hfs,cs,hcs,rfl⟩:=hop
   simp only [AOp.exec0,Option.bind_eq_some_iff,Option.some.injEq] at he
   obtain ⟨v1,hv1,v2,hv2,rfl⟩:=he
   obtain ⟨l1,r1⟩:=evals_rel ho hfs hv1
   obtain ⟨l2,r2⟩:=evals_rel ho hcs hv2
   refine runs_same hh rfl rfl (x:=.func (.func f) (first.map a.eval) (caps.map a.eval)) rfl (.fn _ k f (C.fns f k hk) v1 v2 _ _ (by simp [l1]) (by simp [l2]) (fun i c y hc hy=>r1 i c y hc ?_) (fun i c y hc hy=>r2 i c y hc ?_))
   ·simpa using hy
   ·simpa using hy
  | _=>simp [Tr.op] at hop
 | makeSlice t l c=>
  rw [hq] at hop
  dsimp only
  simp only [Tr.op] at hop
  split at hop
  ·rename_i e' hu
   simp only [Option.bind_eq_some_iff,Option.map_eq_some_iff] at hop
   obtain ⟨s,hs,k,hk,z,hz,l',hl,c',hc,rfl⟩:=hop
   simp only [AOp.exec0,Option.bind_eq_some_iff] at he
   obtain ⟨ln,⟨vl,hvl,hln⟩,cn,⟨vc,hvc,hcn⟩,he⟩:=he
   split at he
   ·rename_i hcond
    simp only [Option.some.injEq] at he
    subst he
    obtain ⟨q1,e1⟩:=nat?_rel (ho l l' vl hl hvl) hln
    obtain ⟨q2,e2⟩:=nat?_rel (ho c c' vc hc hvc) hcn
    rw [e1,e2]
    exact mkslice_runs hh (hn (by simp)) (hhn (by simp)) hu hs hk hz hcond.1 hcond.2.1 hcond.2.2.1 hcond.2.2.2
   ·cases he
  ·cases hop
 | slice t x lo hi mx=>
  rw [hq] at hop
  dsimp only
  simp only [Tr.op] at hop
  split at hop
  ·rename_i e' hu
   simp only [Option.bind_eq_some_iff] at hop
   obtain ⟨s,hs,x',hx,lo',hlo,hi',hhi,mx',hmx,hop⟩:=hop
   split at hop
   ·cases hop
   ·rename_i hc
    simp only [Option.some.injEq] at hop
    subst hop
    simp only [AOp.exec0,Option.bind_eq_some_iff,Option.some.injEq] at he
    obtain ⟨vx,hvx,v,hv,rfl⟩:=he
    exact slice_runs hh ho hu hs hlo hhi hmx (fun hm=>by cases hi' <;> simp_all) (ho x x' vx hx hvx) hv
  ·rename_i m e' hu
   simp only [Option.bind_eq_some_iff] at hop
   obtain ⟨s,hs,x',hx,lo',hlo,hi',hhi,mx',hmx,hop⟩:=hop
   split at hop
   ·cases hop
   ·rename_i hc
    simp only [Option.some.injEq] at hop
    subst hop
    simp only [AOp.exec0,Option.bind_eq_some_iff] at he
    obtain ⟨vx,hvx,he⟩:=he
    exact slicea_runs hh ho hu hs hlo hhi hmx (fun hm=>by cases hi' <;> simp_all) (ho x x' vx hx hvx) he
  ·rename_i hu
   split at hop
   ·cases hop
   ·rename_i hm
    simp only [Option.bind_eq_some_iff,Option.map_eq_some_iff] at hop
    obtain ⟨x',hx,lo',hlo,hi',hhi,rfl⟩:=hop
    simp only [AOp.exec0,Option.bind_eq_some_iff] at he
    obtain ⟨vx,hvx,he⟩:=he
    have hr:=ho x x' vx hx hvx
    generalize a.eval x=q at hr ⊢
    cases hr with
    | str _ s=>
     simp only [Option.bind_eq_some_iff] at he
     obtain ⟨l,hl,hr',hr1,he⟩:=he
     split at he
     ·rename_i hc
      simp only [Option.some.injEq] at he
      subst he
      have hmx:mx=none:=by cases mx <;> simp_all
      subst hmx
      have hle:hr'≤s.size:=by have:=hc.2;simpa using this
      have hopt:∀{d k:Nat} {x:Option Operand} {y:Option AOpd},C.T.odd x=some y→optNat ρ d y=some k→∃k':Option Nat,OptR k' (x.map a.eval)∧k'.getD d=k:=fun {d k x y} hxy hk=>by
       cases x with
       | none=>simp [Tr.odd] at hxy;subst hxy;simp [optNat] at hk;subst hk;exact ⟨none,trivial,rfl⟩
       | some x=>
        simp only [Tr.odd,Option.map_eq_some_iff] at hxy
        obtain ⟨y',hy',rfl⟩:=hxy
        simp only [optNat,Option.bind_eq_some_iff] at hk
        obtain ⟨v,hv,hk⟩:=hk
        exact ⟨some k,nat?_rel (ho x y' v hy' hv) hk,rfl⟩
      obtain ⟨l',l1,l2⟩:=hopt hlo hl
      obtain ⟨r',r1,r2⟩:=hopt hhi hr1
      have hsl:s.data.toList.length=s.size:=by simp
      rw [hsl] at r2
      have hb:=run_bounds (P:=C.T.P) (b:=false) (len:=s.size) (cap:=s.size) (mx:=none) (vm:=none) l1 r1 trivial (by simp) (by rw [l2,r2];exact hc.1) (by rw [r2];simpa using hle) (by simp) w
      rw [l2,r2] at hb
      refine runs_same hh rfl rfl (x:=.string (s.extract l hr')) ?_ ?_
      ·simp [Instr.sliceAt,Instr.slice,run_underlying hu,hb]
      ·have:=Rel.str (N:=C.N) (w:=w) (S:=Imm A w β h) β (s.extract l hr')
       rw [Lib.extract_data] at this
       exact this
     ·cases he
    | _=>simp at he
  ·cases hop
 | fieldAddr s x f=>
  rw [hq] at hop
  dsimp only
  simp only [Tr.op,Option.bind_eq_some_iff] at hop
  obtain ⟨fd,hfd,k,hk,hop⟩:=hop
  split at hop
  ·cases hop
  ·rename_i hk0
   simp only [Option.map_eq_some_iff] at hop
   obtain ⟨y,hy,rfl⟩:=hop
   simp only [AOp.exec0,Option.bind_eq_some_iff] at he
   obtain ⟨v,hv,he⟩:=he
   have hr:=ho x y v hy hv
   have hfs:∃fs,C.T.P.underlying s=some (.struct fs)∧fs[f]?=some fd:=by
    unfold Tr.fieldOf at hfd
    split at hfd
    ·exact ⟨_,by assumption,hfd⟩
    ·cases hfd
   obtain ⟨fs,hu,hf⟩:=hfs
   have hrun:∀(b o:Nat),(Instr.fieldAt s (.pointer (some ⟨b,o,none⟩)) f).run C.T.P w=.ok (.pointer (some ⟨b,o+fd.offset,none⟩)) w:=fun b o=>by
    simp [Instr.fieldAt,run_underlying hu,hf,Instr.sureAddr,fieldPlace,run_sizeOf' hk w,hk0,Addr.add_mid]
   generalize a.eval x=q at hr ⊢
   cases hr with
   | ptr _ ab size i o b hb=>
    simp only [Option.some.injEq] at he
    subst he
    refine runs_same hh rfl rfl (hrun b _) ?_
    have:=Rel.ptr (N:=C.N) (w:=w) (S:=Imm A w β h) β ab size i (o+fd.offset) b hb
    rw [←Nat.add_assoc] at this;exact this
   | iptr _ size rows i o b off ys hS hr1 hy1 h1=>
    simp only [Option.some.injEq] at he
    subst he
    refine runs_same hh rfl rfl (hrun b _) ?_
    have:=Rel.iptr (N:=C.N) (w:=w) (S:=Imm A w β h) β size rows i (o+fd.offset) b off ys hS hr1 hy1 h1
    rw [←Nat.add_assoc] at this;exact this
   | _=>simp at he
 | field s x f=>
  rw [hq] at hop
  dsimp only
  simp only [Tr.op,Option.bind_eq_some_iff,Option.map_eq_some_iff] at hop
  obtain ⟨fd,hfd,k,hk,g,hg,y,hy,rfl⟩:=hop
  simp only [AOp.exec0,Option.bind_eq_some_iff] at he
  obtain ⟨v,hv,he⟩:=he
  have hr:=ho x y v hy hv
  have hfs:∃fs,C.T.P.underlying s=some (.struct fs)∧fs[f]?=some fd:=by
   unfold Tr.fieldOf at hfd
   split at hfd
   ·exact ⟨_,by assumption,hfd⟩
   ·cases hfd
  obtain ⟨fs,hu,hf⟩:=hfs
  split at he
  ·simp only [Option.bind_eq_some_iff,Option.some.injEq] at he
   obtain ⟨v',hv',rfl⟩:=he
   obtain ⟨ys,e1,hc⟩:=rel_agg hr
   rw [e1]
   obtain ⟨y',q1,q2⟩:=part_rel hk hg hc hv'
   exact runs_same hh rfl rfl (x:=y') (by simp [Instr.field,run_underlying hu,hf,asAgg,q1]) q2
  ·cases he
 | indexAddr t x i=>
  rw [hq] at hop
  dsimp only
  simp only [Tr.op] at hop
  split at hop
  ·rename_i e' hu
   simp only [Option.bind_eq_some_iff,Option.map_eq_some_iff] at hop
   obtain ⟨s,hs,x',hx,i',hi,rfl⟩:=hop
   simp only [AOp.exec0,Option.bind_eq_some_iff] at he
   obtain ⟨vx,hvx,k,⟨vi,hvi,hk⟩,he⟩:=he
   have hr:=ho x x' vx hx hvx
   obtain ⟨q1,e1⟩:=nat?_rel (ho i i' vi hi hvi) hk
   rw [e1]
   generalize a.eval x=q at hr ⊢
   have hrun:∀(b o len c:Nat),k < len→(Instr.indexAt t (.slice (some ⟨b,o,none⟩) len c) (.int q1 k)).run C.T.P w=.ok (.pointer (some ⟨b,o+k*s,none⟩)) w:=fun b o len c hl=>by
    simp [Instr.indexAt,run_underlying hu,asIntOf,hl,run_sizeOf' hs w,Addr.add_mid]
   cases hr with
   | ref _ ab size off len cap b xa c hb hc hlc hxa hm=>
    simp only at he
    split at he
    ·rename_i hcond
     obtain ⟨rfl,hlt⟩:=hcond
     simp only [Option.some.injEq] at he
     subst he
     rcases hxa with hxa|hxa
     ·omega
     ·subst hxa
      refine runs_same hh rfl rfl (hrun b _ len c hlt) ?_
      have:=Rel.ptr (N:=C.N) (w:=w) (S:=Imm A w β h) β ab size (off+k) 0 b hb
      rw [Nat.add_mul,Nat.add_zero] at this;exact this
    ·cases he
   | lst _ size rows cap aa c b off ys hc hlc haa hnn hr1 hy1 h1=>
    simp only at he
    split at he
    ·rename_i hcond
     obtain ⟨rfl,hlt⟩:=hcond
     simp only [Option.some.injEq] at he
     subst he
     obtain ⟨rfl,hS⟩:=haa (by omega)
     refine runs_same hh rfl rfl (hrun b _ rows.length c hlt) ?_
     have:=Rel.iptr (N:=C.N) (w:=w) (S:=Imm A w β h) β size rows k 0 b off ys hS hr1 hy1 h1
     rw [Nat.add_zero] at this;exact this
    ·cases he
   | _=>simp at he
  ·rename_i ln e' hu
   simp only [Option.bind_eq_some_iff,Option.map_eq_some_iff] at hop
   obtain ⟨s,hs,x',hx,i',hi,rfl⟩:=hop
   simp only [AOp.exec0,Option.bind_eq_some_iff] at he
   obtain ⟨vx,hvx,k,⟨vi,hvi,hk⟩,he⟩:=he
   have hr:=ho x x' vx hx hvx
   obtain ⟨q1,e1⟩:=nat?_rel (ho i i' vi hi hvi) hk
   rw [e1]
   generalize a.eval x=q at hr ⊢
   split at he
   ·rename_i hlt
    have hrun:∀(b o:Nat),(Instr.indexAt t (.pointer (some ⟨b,o,none⟩)) (.int q1 k)).run C.T.P w=.ok (.pointer (some ⟨b,o+k*s,none⟩)) w:=fun b o=>by
     simp [Instr.indexAt,run_underlying hu,asIntOf,Instr.sureAddr,hlt,run_sizeOf' hs w,Addr.add_mid]
    cases hr with
    | ptr _ ab size i o b hb=>
     simp only [Option.some.injEq] at he
     subst he
     refine runs_same hh rfl rfl (hrun b _) ?_
     have:=Rel.ptr (N:=C.N) (w:=w) (S:=Imm A w β h) β ab size i (o+k*s) b hb
     rw [←Nat.add_assoc] at this;exact this
    | iptr _ size rows i o b off ys hS hr1 hy1 h1=>
     simp only [Option.some.injEq] at he
     subst he
     refine runs_same hh rfl rfl (hrun b _) ?_
     have:=Rel.iptr (N:=C.N) (w:=w) (S:=Imm A w β h) β size rows i (o+k*s) b off ys hS hr1 hy1 h1
     rw [←Nat.add_assoc] at this;exact this
    | _=>simp at he
   ·cases he
  ·cases hop
 | index t x i=>
  rw [hq] at hop
  dsimp only
  simp only [Tr.op] at hop
  split at hop
  ·rename_i hu
   simp only [Option.bind_eq_some_iff,Option.map_eq_some_iff] at hop
   obtain ⟨x',hx,i',hi,rfl⟩:=hop
   simp only [AOp.exec0,Option.bind_eq_some_iff] at he
   obtain ⟨vx,hvx,k,⟨vi,hvi,hk⟩,he⟩:=he
   have hr:=ho x x' vx hx hvx
   obtain ⟨q1,e1⟩:=nat?_rel (ho i i' vi hi hvi) hk
   rw [e1]
   generalize a.eval x=q at hr ⊢
   cases hr with
   | str _ s=>
    simp only [Option.bind_eq_some_iff,Option.some.injEq] at he
    obtain ⟨b,hb,rfl⟩:=he
    have hlt:k < s.size:=by have:=(List.getElem?_eq_some_iff.1 hb).1;simpa using this
    refine runs_same hh rfl rfl (x:=.int .u8 b.toNat) ?_ (.int _ _ _)
    have h1:s[k]?=some b:=by
     rw [ByteArray.getElem?_lt' s k hlt]
     have:=(List.getElem?_eq_some_iff.1 hb).2
     rw [←this];rfl
    simp [Instr.index,run_underlying hu,asIntOf,h1]
   | _=>simp at he
  ·rename_i ln e' hu
   simp only [Option.bind_eq_some_iff,Option.map_eq_some_iff] at hop
   obtain ⟨s,hs,g,hg,x',hx,i',hi,rfl⟩:=hop
   simp only [AOp.exec0,Option.bind_eq_some_iff] at he
   obtain ⟨vx,hvx,k,⟨vi,hvi,hk⟩,he⟩:=he
   have hr:=ho x x' vx hx hvx
   obtain ⟨q1,e1⟩:=nat?_rel (ho i i' vi hi hvi) hk
   rw [e1]
   split at he
   ·split at he
    ·rename_i hlt
     simp only [Option.bind_eq_some_iff,Option.some.injEq] at he
     obtain ⟨v',hv',rfl⟩:=he
     obtain ⟨ys,e2,hc⟩:=rel_agg hr
     rw [e2]
     obtain ⟨y',p1,p2⟩:=part_rel hs hg hc hv'
     exact runs_same hh rfl rfl (x:=y') (by simp [Instr.index,run_underlying hu,asIntOf,hlt,run_sizeOf' hs w,p1]) p2
    ·cases he
   ·cases he
  ·cases hop
 | extract x i=>
  rw [hq] at hop
  dsimp only
  simp only [Tr.op,Option.map_eq_some_iff] at hop
  obtain ⟨y,hy,rfl⟩:=hop
  simp only [AOp.exec0,Option.bind_eq_some_iff] at he
  obtain ⟨v,hv,he⟩:=he
  have hr:=ho x y v hy hv
  generalize a.eval x=q at hr ⊢
  cases hr with
  | tup _ cs ys hl hrel=>
   simp only [Option.bind_eq_some_iff,Option.some.injEq] at he
   obtain ⟨v',hv',rfl⟩:=he
   have hi:i < ys.size:=by rw [hl];exact (List.getElem?_eq_some_iff.1 hv').1
   exact runs_same hh rfl rfl (x:=ys[i]) (by simp [Instr.extract,hi]) (hrel i _ _ hv' (Array.getElem?_eq_getElem hi))
  | _=>simp at he
 | makeMap t r=>
  rw [hq] at hop
  dsimp only
  simp only [Tr.op] at hop
  split at hop
  ·rename_i k' e' hu
   simp only [Option.map_eq_some_iff] at hop
   obtain ⟨r',hr,rfl⟩:=hop
   simp only [AOp.exec0,Option.bind_eq_some_iff] at he
   obtain ⟨_,hx,he⟩:=he
   simp only [Option.some.injEq] at he
   subst he
   refine mkmap_runs hh (hn (by simp)) (hhn (by simp)) hu (fun x hx'=>?_)
   cases r with
   | none=>simp at hx'
   | some r=>
    simp only [Tr.odd,Option.map_eq_some_iff] at hr
    obtain ⟨y,hy,rfl⟩:=hr
    simp only [Option.bind_eq_some_iff] at hx
    obtain ⟨v,hv,hx⟩:=hx
    have hrr:=ho r y v hy hv
    simp at hx'
    rw [←hx']
    generalize a.eval r=q at hrr ⊢
    cases hrr with
    | int _ k i=>exact ⟨k,i,rfl⟩
    | _=>simp at hx
  ·cases hop
 | lookup t x i ok=>
  rw [hq] at hop
  dsimp only
  simp only [Tr.op] at hop
  split at hop
  ·rename_i k' e' hu
   simp only [Option.bind_eq_some_iff,Option.map_eq_some_iff] at hop
   obtain ⟨c,hc,z,hz,x',hx,i',hi,rfl⟩:=hop
   simp only [AOp.exec0,Option.bind_eq_some_iff] at he
   obtain ⟨vx,hvx,vi,hvi,he⟩:=he
   exact mget_runs hh hu hc hz (ho x x' vx hx hvx) (ho i i' vi hi hvi) he
  ·cases hop
 | mapUpdate t m k x=>
  rw [hq] at hop
  dsimp only
  simp only [Tr.op] at hop
  split at hop
  ·rename_i k' e' hu
   simp only [Option.bind_eq_some_iff,Option.map_eq_some_iff] at hop
   obtain ⟨c,hc,m',hm,k',hk,x',hx,rfl⟩:=hop
   simp only [AOp.exec0,Option.bind_eq_some_iff] at he
   obtain ⟨vm,hvm,vk,hvk,vx,hvx,he⟩:=he
   exact mset_runs hh hu hc (ho m m' vm hm hvm) (ho k k' vk hk hvk) (ho x x' vx hx hvx) he
  ·cases hop
 | insert t m k x=>
  rw [hq] at hop
  dsimp only
  simp only [Tr.op] at hop
  split at hop
  ·rename_i k' e' hu
   simp only [Option.bind_eq_some_iff,Option.map_eq_some_iff] at hop
   obtain ⟨c,hc,m',hm,k',hk,x',hx,rfl⟩:=hop
   simp only [AOp.exec0,Option.bind_eq_some_iff] at he
   obtain ⟨vm,hvm,vk,hvk,vx,hvx,he⟩:=he
   exact mset_runs hh hu hc (ho m m' vm hm hvm) (ho k k' vk hk hvk) (ho x x' vx hx hvx) he
  ·cases hop
 | mapEntry t m k=>
  rw [hq] at hop
  dsimp only
  simp only [Tr.op] at hop
  split at hop
  ·rename_i k' e' hu
   simp only [Option.bind_eq_some_iff,Option.map_eq_some_iff] at hop
   obtain ⟨c,hc,z,hz,m',hm,k',hk,rfl⟩:=hop
   simp only [AOp.exec0,Option.bind_eq_some_iff] at he
   obtain ⟨vm,hvm,vk,hvk,he⟩:=he
   exact mapent_runs hh hu hc hz (ho m m' vm hm hvm) (ho k k' vk hk hvk) he
  ·cases hop
 | entryStore t m st x=>
  rw [hq] at hop
  dsimp only
  simp only [Tr.op,Option.bind_eq_some_iff,Option.map_eq_some_iff] at hop
  obtain ⟨m',hm,k',hk,x',hx,rfl⟩:=hop
  simp only [AOp.exec0,Option.bind_eq_some_iff] at he
  obtain ⟨vm,hvm,vk,hvk,vx,hvx,he⟩:=he
  exact entstore_runs hh (ho m m' vm hm hvm) (ho st k' vk hk hvk) (ho x x' vx hx hvx) he
 | range t x=>
  rw [hq] at hop
  dsimp only
  simp only [Tr.op] at hop
  split at hop
  ·rename_i hu
   simp only [Option.map_eq_some_iff] at hop
   obtain ⟨x',hx,rfl⟩:=hop
   simp only [AOp.exec0,Option.bind_eq_some_iff] at he
   obtain ⟨vx,hvx,he⟩:=he
   have hnew:e.new≠[]:=by
    intro h0
    unfold srangeV at he
    split at he
    ·simp only [Option.some.injEq] at he;subst he;cases h0
    ·cases he
   exact srange_runs hh (hn hnew) (hhn hnew) hu (ho x x' vx hx hvx) he
  ·rename_i k' e' hu
   simp only [Option.map_eq_some_iff] at hop
   obtain ⟨x',hx,rfl⟩:=hop
   simp only [AOp.exec0,Option.bind_eq_some_iff] at he
   obtain ⟨vx,hvx,he⟩:=he
   have hnew:e.new≠[]:=by
    intro h0
    unfold mrangeV at he
    split at he
    ·simp only [Option.some.injEq] at he;subst he;cases h0
    ·split at he
     ·simp only [Option.some.injEq] at he;subst he;cases h0
     ·cases he
    ·cases he
   exact mrange_runs hh (hn hnew) (hhn hnew) hu (ho x x' vx hx hvx) he
  ·cases hop
 | next x b=>
  rw [hq] at hop
  dsimp only
  cases b with
  | true=>
   simp only [Tr.op,Option.map_eq_some_iff] at hop
   obtain ⟨x',hx,rfl⟩:=hop
   simp only [AOp.exec0,Option.bind_eq_some_iff] at he
   obtain ⟨vx,hvx,he⟩:=he
   exact snext_runs hh (ho x x' vx hx hvx) he
  | false=>
   simp only [Tr.op,Option.map_eq_some_iff] at hop
   obtain ⟨x',hx,rfl⟩:=hop
   simp only [AOp.exec0,Option.bind_eq_some_iff] at he
   obtain ⟨vx,hvx,he⟩:=he
   exact mnext_runs hh (ho x x' vx hx hvx) he
 | entry x=>
  rw [hq] at hop
  dsimp only
  simp only [Tr.op,Option.map_eq_some_iff] at hop
  obtain ⟨x',hx,rfl⟩:=hop
  simp only [AOp.exec0,Option.bind_eq_some_iff] at he
  obtain ⟨vx,hvx,he⟩:=he
  exact mentry_runs hh (ho x x' vx hx hvx) he
 | call c=>
  rw [hq] at hop
  dsimp only
  simp only [Tr.op] at hop
  split at hop
  ·rename_i b hcal
   have key:=fun cs=>builtin_sound (ty:=o.type) (cs:=cs) hh ho hop he hn hhn
   have e1:(c.args.toList.map a.eval).toArray=c.args.map a.eval:=by apply Array.ext';simp
   simp only [e1,Array.toArray_toList] at key
   unfold resolve
   rw [hcal]
   exact key _
  ·simp only [Option.bind_eq_some_iff,Option.map_eq_some_iff] at hop
   obtain ⟨_,_,_,_,rfl⟩:=hop
   simp [AOp.exec0] at he
  ·simp only [Option.bind_eq_some_iff,Option.map_eq_some_iff] at hop
   obtain ⟨_,_,_,_,rfl⟩:=hop
   simp [AOp.exec0] at he
  ·simp only [Option.bind_eq_some_iff,Option.map_eq_some_iff] at hop
   obtain ⟨_,_,_,_,rfl⟩:=hop
   simp [AOp.exec0] at he
 | _=>rw [hq] at hop;simp [Tr.op] at hop
end
end Go.Proofs.YtigdhgbkgfagiaaGreat
namespace Go.Proofs.YtigdhgbkgfagiaaGreat
def AOp.opds:AOp→List AOpd
 | .mov x|.box x|.nilchk x|.isnil _ _ x|.clr _ _ x|.un _ x|.conv _ x|.same x|.bytes x|.string x|.mkiface _ x|.fa x _|.fld x _ _ _|.ext x _|.len x|.slen x|.cap x|.load _ _ x=>[x]
 | .pick c a b=>[c,a,b]
 | .alloc _|.no=>[]
 | .build _ ps=>ps.map (·.2.2)
 | .bslice _ _ _ ps=>ps.map (·.2)
 | .store _ p x|.bin _ p x|.acmp _ _ p x|.beq _ p x|.ia _ p x|.iaa _ _ p x|.chr p x|.idx _ _ _ p x|.append _ _ p x|.copy _ p x|.mkslice _ _ _ p x|.xfn _ p x=>[p,x]
 | .mkfn _ a b=>a++b
 | .slice _ x a b c=>x::(a.toList++b.toList++c.toList)
 | .slicea _ _ x a b c=>x::(a.toList++b.toList++c.toList)
 | .substr x a b=>x::(a.toList++b.toList)
 | .min xs|.max xs=>xs
 | .mkmap r=>r.toList
 | .mget _ _ _ m k|.mdel _ m k=>[m,k]
 | .mset _ m k x=>[m,k,x]
 | .mlen m|.mrange m|.srange m|.mnext m|.snext m|.mentry m=>[m]
 | .mapent _ _ m k=>[m,k]
 | .entstore m st x=>[m,st,x]
 | .call c args=>(match c with|.fn _=>[]|.dyn x=>[x]|.meth x _=>[x])++args
def AOpd.tmps:AOpd→List Nat
 | .t n=>[n]
 | _=>[]
section
variable {ρ ρ':AOpd→Option V}
theorem evals_congr:∀{xs:List AOpd},(∀x∈xs,ρ' x=ρ x)→evals ρ' xs=evals ρ xs
 | [],_=>rfl
 | x::xs,h=>by
  simp only [evals]
  rw [h x (by simp),evals_congr (fun y hy=>h y (by simp [hy]))]
theorem evalParts_congr:∀{xs:List (Nat×Nat×AOpd)},(∀x∈xs.map (·.2.2),ρ' x=ρ x)→evalParts ρ' xs=evalParts ρ xs
 | [],_=>rfl
 | (a,b,x)::xs,h=>by
  simp only [evalParts]
  rw [h x (by simp),evalParts_congr (fun y hy=>h y (by simp at hy ⊢;exact .inr hy))]
theorem evalParts1_congr:∀{xs:List (Nat×AOpd)},(∀x∈xs.map (·.2),ρ' x=ρ x)→evalParts1 ρ' xs=evalParts1 ρ xs
 | [],_=>rfl
 | (a,x)::xs,h=>by
  simp only [evalParts1]
  rw [h x (by simp),evalParts1_congr (fun y hy=>h y (by simp at hy ⊢;exact .inr hy))]
theorem optNat?_congr {x:Option AOpd} (h:∀y∈x.toList,ρ' y=ρ y):optNat? ρ' x=optNat? ρ x:=by
 cases x with
 | none=>rfl
 | some x=>simp only [optNat?];rw [h x (by simp)]
theorem optNat_congr {d:Nat} {x:Option AOpd} (h:∀y∈x.toList,ρ' y=ρ y):optNat ρ' d x=optNat ρ d x:=by
 cases x with
 | none=>rfl
 | some x=>simp only [optNat];rw [h x (by simp)]
theorem exec_rho0 (n:Nat) (get:Nat→Option Blk) (ao:AOp) (h:∀x∈ao.opds,ρ' x=ρ x):ao.exec0 n get ρ'=ao.exec0 n get ρ:=by
 cases ao with
 | pick c a b=>simp only [AOp.exec0];rw [h c (by simp [AOp.opds]),h a (by simp [AOp.opds]),h b (by simp [AOp.opds])]
 | alloc z=>rfl
 | no=>rfl
 | build z ps=>simp only [AOp.exec0];rw [evalParts_congr (by simpa [AOp.opds] using h)]
 | bslice s z l ps=>simp only [AOp.exec0];rw [evalParts1_congr (by simpa [AOp.opds] using h)]
 | mkfn f a b=>simp only [AOp.exec0];rw [evals_congr (fun x hx=>h x (by simp [AOp.opds,hx])),evals_congr (fun x hx=>h x (by simp [AOp.opds,hx]))]
 | slice s x a b c=>simp only [AOp.exec0];rw [h x (by simp [AOp.opds]),optNat?_congr (fun y hy=>h y (by simp only [AOp.opds,List.mem_cons,List.mem_append];exact .inr (.inl (.inl hy)))),optNat?_congr (fun y hy=>h y (by simp only [AOp.opds,List.mem_cons,List.mem_append];exact .inr (.inl (.inr hy)))),optNat?_congr (fun y hy=>h y (by simp only [AOp.opds,List.mem_cons,List.mem_append];exact .inr (.inr hy)))]
 | slicea s m x a b c=>simp only [AOp.exec0];rw [h x (by simp [AOp.opds]),optNat?_congr (fun y hy=>h y (by simp only [AOp.opds,List.mem_cons,List.mem_append];exact .inr (.inl (.inl hy)))),optNat?_congr (fun y hy=>h y (by simp only [AOp.opds,List.mem_cons,List.mem_append];exact .inr (.inl (.inr hy)))),optNat?_congr (fun y hy=>h y (by simp only [AOp.opds,List.mem_cons,List.mem_append];exact .inr (.inr hy)))]
 | substr x a b=>
  have e1:optNat ρ' 0 a=optNat ρ 0 a:=optNat_congr (fun y hy=>h y (by simp only [AOp.opds,List.mem_cons,List.mem_append];exact .inr (.inl hy)))
  have e2:∀d,optNat ρ' d b=optNat ρ d b:=fun d=>optNat_congr (fun y hy=>h y (by simp only [AOp.opds,List.mem_cons,List.mem_append];exact .inr (.inr hy)))
  simp only [AOp.exec0];rw [h x (by simp [AOp.opds]),e1];simp only [e2]
 | min xs=>simp only [AOp.exec0];rw [evals_congr (by simpa [AOp.opds] using h)]
 | max xs=>simp only [AOp.exec0];rw [evals_congr (by simpa [AOp.opds] using h)]
 | call c args=>rfl
 | mkmap r=>
  cases r with
  | none=>rfl
  | some x=>simp only [AOp.exec0];rw [h x (by simp [AOp.opds])]
 | mget c z o m k=>simp only [AOp.exec0];rw [h m (by simp [AOp.opds]),h k (by simp [AOp.opds])]
 | mdel c m k=>simp only [AOp.exec0];rw [h m (by simp [AOp.opds]),h k (by simp [AOp.opds])]
 | mset c m k x=>simp only [AOp.exec0];rw [h m (by simp [AOp.opds]),h k (by simp [AOp.opds]),h x (by simp [AOp.opds])]
 | mlen m=>simp only [AOp.exec0];rw [h m (by simp [AOp.opds])]
 | mrange m=>simp only [AOp.exec0];rw [h m (by simp [AOp.opds])]
 | srange m=>simp only [AOp.exec0];rw [h m (by simp [AOp.opds])]
 | mnext m=>simp only [AOp.exec0];rw [h m (by simp [AOp.opds])]
 | snext m=>simp only [AOp.exec0];rw [h m (by simp [AOp.opds])]
 | mentry m=>simp only [AOp.exec0];rw [h m (by simp [AOp.opds])]
 | mapent c z m k=>simp only [AOp.exec0];rw [h m (by simp [AOp.opds]),h k (by simp [AOp.opds])]
 | entstore m k x=>simp only [AOp.exec0];rw [h m (by simp [AOp.opds]),h k (by simp [AOp.opds]),h x (by simp [AOp.opds])]
 | store k p x=>simp only [AOp.exec0];rw [h p (by simp [AOp.opds]),h x (by simp [AOp.opds])]
 | bin o p x=>simp only [AOp.exec0];rw [h p (by simp [AOp.opds]),h x (by simp [AOp.opds])]
 | acmp s o p x=>simp only [AOp.exec0];rw [h p (by simp [AOp.opds]),h x (by simp [AOp.opds])]
 | beq o p x=>simp only [AOp.exec0];rw [h p (by simp [AOp.opds]),h x (by simp [AOp.opds])]
 | ia o p x=>simp only [AOp.exec0];rw [h p (by simp [AOp.opds]),h x (by simp [AOp.opds])]
 | iaa o l p x=>simp only [AOp.exec0];rw [h p (by simp [AOp.opds]),h x (by simp [AOp.opds])]
 | chr p x=>simp only [AOp.exec0];rw [h p (by simp [AOp.opds]),h x (by simp [AOp.opds])]
 | xfn k p x=>simp only [AOp.exec0];rw [h p (by simp [AOp.opds]),h x (by simp [AOp.opds])]
 | idx s l f p x=>simp only [AOp.exec0];rw [h p (by simp [AOp.opds]),h x (by simp [AOp.opds])]
 | append s b p x=>simp only [AOp.exec0];rw [h p (by simp [AOp.opds]),h x (by simp [AOp.opds])]
 | copy s p x=>simp only [AOp.exec0];rw [h p (by simp [AOp.opds]),h x (by simp [AOp.opds])]
 | mkslice s b z p x=>simp only [AOp.exec0];rw [h p (by simp [AOp.opds]),h x (by simp [AOp.opds])]
 | mov x=>simp only [AOp.exec0];rw [h x (by simp [AOp.opds])]
 | box x=>simp only [AOp.exec0];rw [h x (by simp [AOp.opds])]
 | nilchk x=>simp only [AOp.exec0];rw [h x (by simp [AOp.opds])]
 | un o x=>simp only [AOp.exec0];rw [h x (by simp [AOp.opds])]
 | clr s z x=>simp only [AOp.exec0];rw [h x (by simp [AOp.opds])]
 | isnil c neg x=>simp only [AOp.exec0];rw [h x (by simp [AOp.opds])]
 | conv k x=>simp only [AOp.exec0];rw [h x (by simp [AOp.opds])]
 | same x=>simp only [AOp.exec0];rw [h x (by simp [AOp.opds])]
 | bytes x=>simp only [AOp.exec0];rw [h x (by simp [AOp.opds])]
 | string x=>simp only [AOp.exec0];rw [h x (by simp [AOp.opds])]
 | mkiface t x=>simp only [AOp.exec0];rw [h x (by simp [AOp.opds])]
 | fa x o=>simp only [AOp.exec0];rw [h x (by simp [AOp.opds])]
 | fld x o k l=>simp only [AOp.exec0];rw [h x (by simp [AOp.opds])]
 | ext x i=>simp only [AOp.exec0];rw [h x (by simp [AOp.opds])]
 | len x=>simp only [AOp.exec0];rw [h x (by simp [AOp.opds])]
 | slen x=>simp only [AOp.exec0];rw [h x (by simp [AOp.opds])]
 | cap x=>simp only [AOp.exec0];rw [h x (by simp [AOp.opds])]
 | load k l x=>simp only [AOp.exec0];rw [h x (by simp [AOp.opds])]
end
theorem rowsOf_congr {size:Nat} {get get':Nat→Option Blk} {x:V} {rows:List (List V)} {nd:List Nat} (h:rowsOf size get x=some (rows,nd)) (hg:∀a∈nd,get' a=get a):rowsOf size get' x=some (rows,nd):=by
 cases x with
 | ref a s o l c=>
  simp only [rowsOf] at h ⊢
  cases hk:get a with
  | none=>rw [hk] at h;cases h
  | some k=>
   cases k with
   | loop=>rw [hk] at h;cases h
   | stop=>rw [hk] at h;cases h
   | map=>rw [hk] at h;cases h
   | iter=>rw [hk] at h;cases h
   | siter=>rw [hk] at h;cases h
   | junk=>rw [hk] at h;cases h
   | arr s2 r=>
    rw [hk] at h
    simp only at h
    split at h
    ·rename_i hc
     simp only [Option.some.injEq,Prod.mk.injEq] at h
     obtain ⟨e1,e2⟩:=h
     have:=hg a (by rw [←e2];simp)
     rw [this,hk]
     simp only [hc,and_self,if_true,e1,e2]
    ·cases h
 | lst=>exact h
 | str=>exact h
 | _=>simp [rowsOf] at h
theorem mapOf_congr {get get':Nat→Option Blk} {m:V} {es:List (V×V)} {nd:List Nat} (h:mapOf get m=some (es,nd)) (hg:∀a∈nd,get' a=get a):mapOf get' m=some (es,nd):=by
 cases m with
 | nilm=>exact h
 | mapp a=>
  simp only [mapOf] at h ⊢
  split at h
  ·rename_i es' bs' clk' hk
   simp only [Option.some.injEq,Prod.mk.injEq] at h
   obtain ⟨e1,e2⟩:=h
   rw [hg a (by rw [←e2];simp),hk]
   simp only [e1,e2]
  ·cases h
 | _=>simp [mapOf] at h
theorem nextE_congr {get get':Nat→Option Blk} {x:V} {l:List Eff} {e:Eff} (h:nextE get x=some l) (hm:e∈l) (hg:∀a∈e.need,get' a=get a):nextE get' x=some l:=by
 unfold nextE at h ⊢
 split at h
 case h_2=>cases h
 rename_i r
 try simp only
 split at h
 ·rename_i since seen last hr
  simp only [Option.some.injEq] at h
  subst h
  rw [List.mem_singleton] at hm
  subst hm
  rw [hg r (by simp),hr]
 ·rename_i m since seen last hr
  split at h
  case h_2=>cases h
  rename_i es bs clk hk
  split at h
  case isFalse=>cases h
  rename_i hc
  have hn:e.need=[r,m]:=by
   split at h
   ·simp only [Option.some.injEq] at h;subst h;rw [List.mem_singleton] at hm;rw [hm]
   ·simp only [Option.some.injEq] at h;subst h
    obtain ⟨c,_,rfl⟩:=List.mem_map.1 hm;rfl
  rw [hg r (by rw [hn];simp),hr]
  try simp only
  rw [hg m (by rw [hn];simp),hk]
  try simp only
  rw [if_pos hc]
  exact h
 ·cases h
theorem exec_get0 {n:Nat} {get get':Nat→Option Blk} {ρ:AOpd→Option V} {ao:AOp} {e:Eff} (he:ao.exec0 n get ρ=some e) (hg:∀a∈e.need,get' a=get a):ao.exec0 n get' ρ=some e:=by
 cases ao with
 | load k leaf p=>
  simp only [AOp.exec0,Option.bind_eq_some_iff] at he ⊢
  obtain ⟨v,hv,he⟩:=he
  refine ⟨v,hv,?_⟩
  unfold loadV at he ⊢
  split at he
  ·rename_i a size i o
   split at he
   ·rename_i size' rows hk
    split at he
    ·rename_i hs
     have h0:=he
     simp only [Option.bind_eq_some_iff] at he
     obtain ⟨row,_,v',_,he⟩:=he
     simp only [Option.some.injEq] at he
     have:=hg a (by rw [←he];simp)
     simp only [this,hk,hs,if_true]
     exact h0
    ·cases he
   ·cases he
  ·exact he
  ·cases he
 | store k p x=>
  simp only [AOp.exec0,Option.bind_eq_some_iff] at he ⊢
  obtain ⟨v,hv,v2,hv2,he⟩:=he
  refine ⟨v,hv,v2,hv2,?_⟩
  unfold storeV at he ⊢
  split at he
  ·rename_i a size i o
   split at he
   ·rename_i size' rows hk
    split at he
    ·rename_i hs
     have h0:=he
     simp only [Option.bind_eq_some_iff] at he
     obtain ⟨row,_,he⟩:=he
     split at he
     ·simp only [Option.some.injEq] at he
      have:=hg a (by rw [←he];simp)
      simp only [this,hk]
      rw [if_pos hs];exact h0
     ·cases he
    ·cases he
   ·cases he
  ·cases he
 | mget c z o m k=>
  simp only [AOp.exec0,Option.bind_eq_some_iff] at he ⊢
  obtain ⟨v,hv,v2,hv2,he⟩:=he
  refine ⟨v,hv,v2,hv2,?_⟩
  unfold mgetV at he ⊢
  split at he
  ·rename_i hk
   rw [if_pos hk]
   simp only [Option.bind_eq_some_iff] at he ⊢
   obtain ⟨⟨es,nd⟩,hm,r,hr,he⟩:=he
   simp only [Option.some.injEq] at he
   exact ⟨(es,nd),mapOf_congr hm (fun a ha=>hg a (by rw [←he];exact ha)),r,hr,by rw [he]⟩
  ·cases he
 | mset c m k x=>
  simp only [AOp.exec0,Option.bind_eq_some_iff] at he ⊢
  obtain ⟨v,hv,v2,hv2,v3,hv3,he⟩:=he
  refine ⟨v,hv,v2,hv2,v3,hv3,?_⟩
  unfold msetV at he ⊢
  split at he
  ·rename_i a
   split at he
   ·rename_i es bs clk hk
    split at he
    ·rename_i hc
     have h0:=he
     simp only [Option.bind_eq_some_iff] at he
     obtain ⟨r,hr,he⟩:=he
     simp only [Option.some.injEq] at he
     have:=hg a (by rw [←he];simp)
     simp only [this,hk,hc,if_true];exact h0
    ·cases he
   ·cases he
  ·cases he
 | mdel c m k=>
  simp only [AOp.exec0,Option.bind_eq_some_iff] at he ⊢
  obtain ⟨v,hv,v2,hv2,he⟩:=he
  refine ⟨v,hv,v2,hv2,?_⟩
  unfold mdelV at he ⊢
  split at he
  ·rename_i a
   split at he
   ·rename_i es bs clk hk
    split at he
    ·rename_i hc
     have h0:=he
     simp only [Option.bind_eq_some_iff] at he
     obtain ⟨r,hr,he⟩:=he
     simp only [Option.some.injEq] at he
     have:=hg a (by rw [←he];simp)
     simp only [this,hk,hc,if_true];exact h0
    ·cases he
   ·cases he
  ·cases he
 | mrange x=>
  simp only [AOp.exec0,Option.bind_eq_some_iff] at he ⊢
  obtain ⟨v,hv,he⟩:=he
  refine ⟨v,hv,?_⟩
  unfold mrangeV at he ⊢
  split at he
  ·exact he
  ·rename_i a
   try simp only
   split at he
   ·rename_i es bs clk hk
    have h0:=he
    simp only [Option.some.injEq] at he
    have:=hg a (by rw [←he];simp)
    rw [this,hk];exact h0
   ·cases he
  ·cases he
 | mnext x=>
  simp only [AOp.exec0,Option.bind_eq_some_iff] at he ⊢
  obtain ⟨v,hv,he⟩:=he
  refine ⟨v,hv,?_⟩
  unfold mnextV at he ⊢
  split at he
  ·rename_i e' hl
   simp only [Option.some.injEq] at he
   subst he
   rw [nextE_congr hl (List.mem_singleton_self _) hg]
  ·cases he
 | snext x=>
  simp only [AOp.exec0,Option.bind_eq_some_iff] at he ⊢
  obtain ⟨v,hv,he⟩:=he
  refine ⟨v,hv,?_⟩
  unfold snextV at he ⊢
  split at he
  case h_2=>cases he
  rename_i r
  try simp only
  split at he
  case h_2=>cases he
  rename_i s pos hr
  have hn:e.need=[r]:=by
   split at he
   ·simp only [Option.some.injEq] at he;rw [←he]
   ·simp only [Option.some.injEq] at he;rw [←he]
  rw [hg r (by rw [hn];simp),hr]
  exact he
 | mentry x=>
  simp only [AOp.exec0,Option.bind_eq_some_iff] at he ⊢
  obtain ⟨v,hv,he⟩:=he
  refine ⟨v,hv,?_⟩
  unfold mentryV at he ⊢
  split at he
  case h_2=>cases he
  rename_i r
  try simp only
  split at he
  case h_2=>cases he
  rename_i m since seen last hr
  split at he
  case h_2=>cases he
  rename_i es bs clk hm
  split at he
  case isFalse=>cases he
  rename_i hc
  have h0:=he
  simp only [Option.bind_eq_some_iff,Option.some.injEq] at he
  obtain ⟨st,hst,i,hi,p,hp,he⟩:=he
  rw [hg r (by rw [←he];simp),hr]
  try simp only
  rw [hg m (by rw [←he];simp),hm]
  try simp only
  rw [if_pos hc]
  exact h0
 | mapent c z m k=>
  simp only [AOp.exec0,Option.bind_eq_some_iff] at he ⊢
  obtain ⟨v,hv,v2,hv2,he⟩:=he
  refine ⟨v,hv,v2,hv2,?_⟩
  unfold mapentV at he ⊢
  split at he
  case h_2=>cases he
  rename_i a
  try simp only
  split at he
  case h_2=>cases he
  rename_i es bs clk hk
  split at he
  case isFalse=>cases he
  rename_i hc
  have h0:=he
  simp only [Option.bind_eq_some_iff] at he
  obtain ⟨r,hr,he⟩:=he
  have hn:e.need=[a]:=by
   split at he
   ·simp only [Option.some.injEq] at he;rw [←he]
   ·simp only [Option.some.injEq] at he;rw [←he]
  rw [hg a (by rw [hn];simp),hk]
  try simp only
  rw [if_pos hc]
  exact h0
 | entstore m st x=>
  simp only [AOp.exec0,Option.bind_eq_some_iff] at he ⊢
  obtain ⟨v,hv,v2,hv2,v3,hv3,he⟩:=he
  refine ⟨v,hv,v2,hv2,v3,hv3,?_⟩
  unfold entstoreV at he ⊢
  split at he
  case h_2=>cases he
  rename_i a bi
  try simp only
  split at he
  case h_2=>cases he
  rename_i es bs clk hk
  split at he
  case isFalse=>cases he
  rename_i hc
  have h0:=he
  simp only [Option.bind_eq_some_iff,Option.some.injEq] at he
  obtain ⟨i,hi,p,hp,he⟩:=he
  rw [hg a (by rw [←he];simp),hk]
  try simp only
  rw [if_pos hc]
  exact h0
 | mlen m=>
  simp only [AOp.exec0,Option.bind_eq_some_iff] at he ⊢
  obtain ⟨v,hv,⟨es,nd⟩,hm,he⟩:=he
  simp only [Option.some.injEq] at he
  exact ⟨v,hv,(es,nd),mapOf_congr hm (fun a ha=>hg a (by rw [←he];exact ha)),by rw [he]⟩
 | string x=>
  simp only [AOp.exec0,Option.bind_eq_some_iff] at he ⊢
  obtain ⟨v,hv,u,hu,⟨rows,nd⟩,hr,s,hs,he⟩:=he
  simp only [Option.some.injEq] at he
  exact ⟨v,hv,u,hu,⟨rows,nd⟩,rowsOf_congr hr (fun a ha=>hg a (by rw [←he];exact ha)),s,hs,by rw [he]⟩
 | append size bts x y=>
  simp only [AOp.exec0,Option.bind_eq_some_iff] at he ⊢
  obtain ⟨v,hv,v2,hv2,he⟩:=he
  refine ⟨v,hv,v2,hv2,?_⟩
  simp only [appendV,Option.bind_eq_some_iff] at he ⊢
  obtain ⟨⟨ys,ny⟩,hy,he⟩:=he
  have key:∀{e:Eff},(∀a∈ny,a∈e.need)→(∀a∈e.need,get' a=get a)→rowsOf size get' v2=some (ys,ny):=fun h1 h2=>rowsOf_congr hy (fun a ha=>h2 a (h1 a ha))
  refine ⟨(ys,ny),?_⟩
  cases v with
  | lst s r c=>
   simp only at he ⊢
   refine ⟨key (e:=e) ?_ hg,he⟩
   intro a ha
   split at he
   ·simp only [Option.some.injEq] at he;rw [←he];exact ha
   ·cases c with
    | none=>simp at he
    | some c=>
     simp only at he
     split at he
     ·simp only [Option.some.injEq] at he;rw [←he];exact ha
     ·cases he
  | ref a s o l c=>
   simp only at he ⊢
   have hneed:e.need=a::ny:=by
    cases hk:get a with
    | none=>simp [hk] at he
    | some k=>
     cases k with
     | loop=>simp [hk] at he
     | stop=>simp [hk] at he
     | map=>simp [hk] at he
     | iter=>simp [hk] at he
     | siter=>simp [hk] at he
     | junk=>simp [hk] at he
     | arr s2 rows=>
      simp only [hk] at he
      split at he
      ·cases c with
       | none=>
        simp only at he
        split at he
        ·simp only [Option.some.injEq] at he;rw [←he]
        ·cases he
       | some c=>
        simp only at he
        split at he
        ·split at he
         ·simp only [Option.some.injEq] at he;rw [←he]
         ·cases he
        ·split at he
         ·simp only [Option.some.injEq] at he;rw [←he]
         ·cases he
      ·cases he
   refine ⟨key (e:=e) (fun b hb=>by rw [hneed];simp [hb]) hg,?_⟩
   rw [hg a (by rw [hneed];simp)];exact he
  | _=>simp at he
 | clr size z x=>
  simp only [AOp.exec0,Option.bind_eq_some_iff] at he ⊢
  obtain ⟨v,hv,he⟩:=he
  refine ⟨v,hv,?_⟩
  unfold clrV at he ⊢
  split at he
  ·exact he
  ·rename_i a s o l c
   split at he
   ·rename_i s2 rows hk
    split at he
    ·rename_i hc
     have h0:=he
     simp only [Option.some.injEq] at he
     have:=hg a (by rw [←he];simp)
     simp only [this,hk]
     rw [if_pos hc];exact h0
    ·cases he
   ·cases he
  ·cases he
 | slicea size m x lo hi mx=>
  simp only [AOp.exec0,Option.bind_eq_some_iff] at he ⊢
  obtain ⟨v,hv,he⟩:=he
  refine ⟨v,hv,?_⟩
  unfold sliceaV at he ⊢
  split at he
  ·rename_i a s i o
   split at he
   ·rename_i s2 rows hk
    split at he
    ·rename_i l h' m' q1 q2 q3
     have h0:=he
     simp only at he
     split at he
     ·simp only [Option.some.injEq] at he
      have:=hg a (by rw [←he];simp)
      simp only [this,hk]
      exact h0
     ·cases he
    ·cases he
   ·cases he
  ·cases he
 | copy size x y=>
  simp only [AOp.exec0,Option.bind_eq_some_iff] at he ⊢
  obtain ⟨v,hv,v2,hv2,he⟩:=he
  refine ⟨v,hv,v2,hv2,?_⟩
  simp only [copyV,Option.bind_eq_some_iff] at he ⊢
  obtain ⟨⟨ys,ny⟩,hy,he⟩:=he
  refine ⟨(ys,ny),?_⟩
  cases v with
  | lst s r c=>
   simp only at he ⊢
   refine ⟨?_,he⟩
   split at he
   ·simp only [Option.some.injEq] at he
    exact rowsOf_congr hy (fun a ha=>hg a (by rw [←he];exact ha))
   ·cases he
  | ref a s o l c=>
   simp only at he ⊢
   have hneed:e.need=a::ny:=by
    cases hk:get a with
    | none=>simp [hk] at he
    | some k=>
     cases k with
     | loop=>simp [hk] at he
     | stop=>simp [hk] at he
     | map=>simp [hk] at he
     | iter=>simp [hk] at he
     | siter=>simp [hk] at he
     | junk=>simp [hk] at he
     | arr s2 rows=>
      simp only [hk] at he
      split at he
      ·simp only [Option.some.injEq] at he;rw [←he]
      ·cases he
   refine ⟨rowsOf_congr hy (fun b hb=>hg b (by rw [hneed];simp [hb])),?_⟩
   rw [hg a (by rw [hneed];simp)];exact he
  | _=>simp at he
 | _=>exact he
end Go.Proofs.YtigdhgbkgfagiaaGreat
namespace Go.Proofs.YtigdhgbkgfagiaaGreat
theorem flatten_len {s:Nat}:∀{rows:List (List V)},(∀(i:Nat) (row:List V),rows[i]?=some row→row.length=s)→rows.flatten.length=rows.length*s
 | [],h=>by simp
 | r::l,h=>by
  have h0:=h 0 r rfl
  have ih:=flatten_len (rows:=l) (s:=s) (fun i row hi=>h (i+1) row (by simpa using hi))
  simp only [List.flatten_cons,List.length_append,List.length_cons,h0,ih,Nat.add_mul,Nat.one_mul];omega
theorem flatten_get {s:Nat}:∀{rows:List (List V)},(∀(i:Nat) (row:List V),rows[i]?=some row→row.length=s)→∀(i:Nat) (row:List V) (j:Nat) (x:V),rows[i]?=some row→row[j]?=some x→rows.flatten[i*s+j]?=some x
 | [],h,i,row,j,x,hi,hj=>by simp at hi
 | r::l,h,0,row,j,x,hi,hj=>by
  simp at hi;subst hi
  rw [List.flatten_cons,Nat.zero_mul,Nat.zero_add,List.getElem?_append_left (List.getElem?_eq_some_iff.1 hj).1];exact hj
 | r::l,h,i+1,row,j,x,hi,hj=>by
  have h0:=h 0 r rfl
  have ih:=flatten_get (rows:=l) (s:=s) (fun i row hi=>h (i+1) row (by simpa using hi)) i row j x (by simpa using hi) hj
  rw [List.flatten_cons,Nat.add_mul,Nat.one_mul,List.getElem?_append_right (by omega),h0,show i*s+s+j - s=i*s+j by omega];exact ih
theorem flatten_row {s:Nat} {rows:List (List V)} (h:∀(i:Nat) (row:List V),rows[i]?=some row→row.length=s) {k:Nat} {x:V} (hk:rows.flatten[k]?=some x):∃row,rows[k / s]?=some row∧row[k % s]?=some x∧0 < s:=by
 have hl:=flatten_len h
 have hlt:=(List.getElem?_eq_some_iff.1 hk).1
 rw [hl] at hlt
 have hs:0 < s:=by
  rcases Nat.eq_zero_or_pos s with e|e
  ·rw [e] at hlt;simp at hlt
  ·exact e
 have h1:k / s < rows.length:=Nat.div_lt_of_lt_mul (by rw [Nat.mul_comm];exact hlt)
 have h2:k % s < s:=Nat.mod_lt _ hs
 obtain ⟨row,hrow⟩:∃row,rows[k / s]?=some row:=⟨_,List.getElem?_eq_getElem h1⟩
 obtain ⟨y,hy⟩:∃y,row[k % s]?=some y:=⟨_,List.getElem?_eq_getElem (by rw [h _ row hrow];exact h2)⟩
 have:=flatten_get h _ row _ y hrow hy
 have e:k / s*s+k % s=k:=by rw [Nat.mul_comm];exact Nat.div_add_mod k s
 rw [e,hk] at this
 cases this
 exact ⟨row,hrow,hy,hs⟩
theorem chunk_spec (size:Nat):∀(n:Nat) (l:List V),l.length=n*size→(chunkN size n l).flatten=l∧(chunkN size n l).length=n∧∀(i:Nat) (row:List V),(chunkN size n l)[i]?=some row→row.length=size
 | 0,l,h=>by
  have:l=[]:=by simpa using h
  subst this
  exact ⟨rfl,rfl,fun i row hi=>by simp [chunkN] at hi⟩
 | n+1,l,h=>by
  have hd:(l.drop size).length=n*size:=by rw [List.length_drop,h,Nat.add_mul];omega
  obtain ⟨h1,h2,h3⟩:=chunk_spec size n (l.drop size) hd
  refine ⟨by simp [chunkN,h1],by simp [chunkN,h2],fun i row hi=>?_⟩
  cases i with
  | zero=>
   simp [chunkN] at hi
   rw [←hi,List.length_take,h,Nat.add_mul,Nat.one_mul]
   exact Nat.min_eq_left (Nat.le_add_left _ _)
  | succ i=>simp [chunkN] at hi;exact h3 i row hi
def FlatR (N:Nums) (w:World) (S:Nat→Prop) (β:Nat→Option Nat) (flat:List V) (b:Nat):Prop:=
 ∃(cells:Array Value) (T:TypeId) (fz:Nat×Nat),w.heap[b]?=some (.cells cells T fz)∧(∀o,o < flat.length→o < cells.size∧¬(fz.1≤o∧o < fz.2))∧∀(k:Nat) (x:V),flat[k]?=some x→∃y,cells[k]?=some y∧y.oneCell'=true∧Rel N w S β x y
theorem BlkR.flat {N:Nums} {w:World} {S:Nat→Prop} {β:Nat→Option Nat} {s b:Nat} {rows:List (List V)}:BlkR N w S β (.arr s rows) b↔(∀(i:Nat) (row:List V),rows[i]?=some row→row.length=s)∧FlatR N w S β rows.flatten b:=by
 constructor
 ·rintro ⟨cells,T,fz,h1,h2,h3,h4⟩
  refine ⟨h3,cells,T,fz,h1,fun o ho=>h2 o (by rw [←flatten_len h3];exact ho),fun k x hk=>?_⟩
  obtain ⟨row,g1,g2,g3⟩:=flatten_row h3 hk
  have:=h4 _ row _ x g1 g2
  rwa [show k / s*s+k % s=k by rw [Nat.mul_comm];exact Nat.div_add_mod k s] at this
 ·rintro ⟨h3,cells,T,fz,h1,h2,h4⟩
  exact ⟨cells,T,fz,h1,fun o ho=>h2 o (by rw [flatten_len h3];exact ho),h3,fun i row j x hi hj=>h4 _ x (flatten_get h3 i row j x hi hj)⟩
theorem BlkR.shape {N:Nums} {w:World} {S:Nat→Prop} {β:Nat→Option Nat} {k:Blk} {b:Nat} (size:Nat) (h:BlkR N w S β k b):BlkR N w S β (k.shape size) b:=by
 cases k with
 | arr s rows=>
  simp only [Blk.shape]
  split
  ·exact h
  ·split
   ·rename_i hc
    obtain ⟨h1,h2⟩:=BlkR.flat.1 h
    have hl:rows.flatten.length=rows.length*s / size*size:=by
     rw [flatten_len h1,Nat.div_mul_cancel (Nat.dvd_of_mod_eq_zero hc.2)]
    obtain ⟨c1,c2,c3⟩:=chunk_spec size (rows.length*s / size) rows.flatten hl
    exact BlkR.flat.2 ⟨c3,by rw [c1];exact h2⟩
   ·exact h
 | _=>exact h
theorem BlkR.unshape {N:Nums} {w:World} {S:Nat→Prop} {β:Nat→Option Nat} {k:Blk} {b:Nat} (size:Nat) (h:BlkR N w S β (k.shape size) b) (hl:∀s rows,k=.arr s rows→∀(i:Nat) (row:List V),rows[i]?=some row→row.length=s):BlkR N w S β k b:=by
 cases k with
 | arr s rows=>
  simp only [Blk.shape] at h
  split at h
  ·exact h
  ·split at h
   ·rename_i hc
    have h1:=hl s rows rfl
    obtain ⟨h2,h3⟩:=BlkR.flat.1 h
    have hl:rows.flatten.length=rows.length*s / size*size:=by
     rw [flatten_len h1,Nat.div_mul_cancel (Nat.dvd_of_mod_eq_zero hc.2)]
    obtain ⟨c1,c2,c3⟩:=chunk_spec size (rows.length*s / size) rows.flatten hl
    exact BlkR.flat.2 ⟨h1,by rw [c1] at h3;exact h3⟩
   ·exact h
 | _=>exact h
section
variable {A:Nat→Prop} {C:Ctx} {w:World} {β:Nat→Option Nat} {h:Nat→Option Blk} {n:Nat} {ρ ρ':AOpd→Option V} {a:Act}
theorem shG_none {size:Nat} {q:Nat}:shG size h q=none↔h q=none:=by
 unfold shG;cases h q <;> simp
theorem live_sh {β:Nat→Option Nat} {h h':Nat→Option Blk} (hn:∀q,h' q=none↔h q=none):Live β h'=Live β h:=by
 funext b
 apply propext
 exact ⟨fun ⟨q,h1,h2⟩=>⟨q,fun e=>h1 ((hn q).2 e),h2⟩,fun ⟨q,h1,h2⟩=>⟨q,fun e=>h1 ((hn q).1 e),h2⟩⟩
theorem imm_sh {A:Nat→Prop} {w:World} {β:Nat→Option Nat} {h h':Nat→Option Blk} (hn:∀q,h' q=none↔h q=none):Imm A w β h'=Imm A w β h:=by
 funext b
 apply propext
 have:=live_sh (β:=β) hn
 exact ⟨fun ⟨a,b,c,d⟩=>⟨a,by rw [←this];exact b,c,d⟩,fun ⟨a,b,c,d⟩=>⟨a,by rw [this];exact b,c,d⟩⟩
theorem HeapR.shape {N:Nums} (hh:HeapR A N w β h) (size:Nat):HeapR A N w β (shG size h):=by
 have him:Imm A w β (shG size h)=Imm A w β h:=imm_sh (fun q=>shG_none)
 refine ⟨fun q k hk=>?_,fun q q' b h1 h2 h3 h4=>hh.inj q q' b (fun e=>h1 (shG_none.2 e)) (fun e=>h2 (shG_none.2 e)) h3 h4⟩
 rw [him]
 simp only [shG,Option.map_eq_some_iff] at hk
 obtain ⟨k0,hk0,rfl⟩:=hk
 obtain ⟨b,h1,h2,h3⟩:=hh.at' q k0 hk0
 exact ⟨b,h1,h2,h3.shape size⟩
theorem OpdOk.shape {C:Ctx} (ho:OpdOk C w (Imm A w β h) β ρ a) (size:Nat):OpdOk C w (Imm A w β (shG size h)) β ρ a:=by
 rw [imm_sh (h:=h) (fun q=>shG_none)];exact ho
theorem effOk_shape {N:Nums} (hh:HeapR A N w β h) {size:Nat} {e:Eff} {x:Value} {w':World} (he:EffOk A N w β (shG size h) n e x w'):EffOk A N w β h n e x w':=by
 obtain ⟨β',h1,h2,h3,h4,h5⟩:=he
 have hn:∀q,e.heap n (shG size h) q=none↔e.heap n h q=none:=fun q=>by
  unfold Eff.heap
  split
  ·exact Iff.rfl
  ·split
   ·exact Iff.rfl
   ·exact shG_none
 have hlive:=live_sh (β:=β') hn
 have himm:=imm_sh (A:=A) (w:=w') (β:=β') hn
 have hl0:Live β (shG size h)=Live β h:=live_sh (fun q=>shG_none)
 refine ⟨β',h1,⟨fun q k hk=>?_,fun q q' b g1 g2 g3 g4=>h2.inj q q' b (fun e=>g1 ((hn q).1 e)) (fun e=>g2 ((hn q').1 e)) g3 g4⟩,by rw [←himm];exact h3,fun b hb=>by rw [←hl0];exact h4 b (by rw [hlive];exact hb),by rw [←hl0];exact h5⟩
 rw [←himm]
 by_cases hq:e.heap n (shG size h) q=e.heap n h q
 ·exact h2.at' q k (by rw [hq];exact hk)
 ·have hcase:e.heap n h q=h q∧e.heap n (shG size h) q=shG size h q:=by
    unfold Eff.heap at hq ⊢
    by_cases c:n≤q∧q < n+e.new.length
    ·rw [if_pos c,if_pos c] at hq;exact absurd rfl hq
    ·rw [if_neg c,if_neg c] at hq ⊢
     cases hf:e.upd.find? (fun p=>p.1 == q) with
     | some p=>rw [hf] at hq;exact absurd rfl hq
     | none=>exact ⟨rfl,rfl⟩
  rw [hcase.1] at hk
  obtain ⟨b0,_,_,g0⟩:=hh.at' q k hk
  obtain ⟨b,g1,g2,g3⟩:=h2.at' q (k.shape size) (by rw [hcase.2];unfold shG;rw [hk];rfl)
  exact ⟨b,g1,g2,g3.unshape size (fun s rows e=>by subst e;obtain ⟨_,_,_,_,_,p,_⟩:=g0;exact p)⟩
theorem exec_sound (hh:HeapR A C.N w β h) (ho:OpdOk C w (Imm A w β h) β ρ a) {o:Oper} {ao:AOp} (hop:C.T.op o.op=some ao) {e:Eff} (he:ao.exec n h ρ=some e) (hn:e.new≠[]→β n=none) (hhn:e.new≠[]→h n=none):Runs A C w β h n e (execOp a.eval o):=by
 obtain ⟨x,w',h1,h2⟩:=exec_sound0 (hh.shape (ao.sz ρ)) (ho.shape (ao.sz ρ)) hop he hn (fun hne=>shG_none.2 (hhn hne))
 exact ⟨x,w',h1,effOk_shape hh h2⟩
theorem exec_rho (n:Nat) (get:Nat→Option Blk) (ao:AOp) (h:∀x∈ao.opds,ρ' x=ρ x):ao.exec n get ρ'=ao.exec n get ρ:=by
 unfold AOp.exec
 have:ao.sz ρ'=ao.sz ρ:=by
  cases ao with
  | load k l p=>simp only [AOp.sz];rw [h p (by simp [AOp.opds])]
  | store k p x=>simp only [AOp.sz];rw [h p (by simp [AOp.opds])]
  | _=>rfl
 rw [this,exec_rho0 n _ ao h]
theorem exec_get {get get':Nat→Option Blk} {ao:AOp} {e:Eff} (he:ao.exec n get ρ=some e) (hg:∀a∈e.need,get' a=get a):ao.exec n get' ρ=some e:=
 exec_get0 he (fun q hq=>by unfold shG;rw [hg q hq])
end
end Go.Proofs.YtigdhgbkgfagiaaGreat
namespace Go.Proofs.YtigdhgbkgfagiaaGreat
structure Lib where
 T:Nat→Option AFunc
 G:Nat→Option V
 X:Nat→List V→Option V
 Y:Nat→List V→Heap→(V→Heap→Prop)→Prop:=fun _ _ _ _=>False
 R:Nat→List V→(Nat→Option Blk)→Option V:=fun _ _ _=>none
 nd:Nat→Bool:=fun _=>false
def FW (r:Option Nat):Fence:={ Fence.wide with round:=r }
inductive Tgt where
 | fn (k:Nat)
 | yl (a:Nat)
def YieldsTo (P:Program) (l:Nat) (xs:Array Value) (w:World) (R:Ending→World→Prop):Prop:=
 ∃fn tmps assign body,(Instr.yield l xs).run P w=.ok (.round l fn tmps assign body) w∧RoundIn Fence.wide 0 P l fn tmps assign body w R
theorem YieldsTo.mono {P:Program} {l:Nat} {xs:Array Value} {w:World} {R R':Ending→World→Prop} (h:YieldsTo P l xs w R) (hr:∀e w,R e w→R' e w):YieldsTo P l xs w R':=
 let ⟨fn,tmps,assign,body,h1,h2⟩:=h;⟨fn,tmps,assign,body,h1,h2.mono hr⟩
def RunAt (C:Ctx) (β:Nat→Option Nat) (t:Tgt) (xs:Array Value) (w:World) (R:Ending→World→Prop):Prop:=
 match t with
 | .fn k=>∀fid,C.N.ν k=some fid→Calls C.T.P fid xs w R
 | .yl a=>∀l,β a=some l→YieldsTo C.T.P l xs w R
theorem RunAt.mono {C:Ctx} {β:Nat→Option Nat} {t:Tgt} {xs:Array Value} {w:World} {R R':Ending→World→Prop} (h:RunAt C β t xs w R) (hr:∀e w,R e w→R' e w):RunAt C β t xs w R':=by
 cases t with
 | fn k=>exact fun fid hf=>(h fid hf).mono hr
 | yl a=>exact fun l hl=>(h l hl).mono hr
def RArgs (C:Ctx) (w:World) (S:Nat→Prop) (β:Nat→Option Nat) (args:List V) (vs:Array Value):Prop:=
 vs.size=args.length∧∀(i:Nat) (v:V) (x:Value),args[i]?=some v→vs[i]?=some x→Rel C.N w S β v x
def GlobR (A:Nat→Prop) (C:Ctx) (w:World) (β:Nat→Option Nat) (h:Nat→Option Blk):Prop:=
 ∀(g k:Nat) (v:V),C.T.gls g=some k→C.G k=some v→Rel C.N w (Imm A w β h) (fun _=>none) v (.pointer (some ⟨g,0,none⟩))
structure Ok (L:Lib) (C:Ctx):Prop where
 fn:∀k fid F,C.N.ν k=some fid→L.T k=some F→∃f,C.T.P.funcs[fid]?=some f∧C.T.func F.kills f=some F
 gl:C.G=L.G
 body:∀k fid,C.N.ν k=some fid→∃f,C.T.P.funcs[fid]?=some f∧f.body.isNone=false∧(f.name == "runtime.NumGoroutine")=false
 ext:∀k fid args r,C.N.ν k=some fid→L.X k args=some r→∀(A:Nat→Prop) (w:World) (β:Nat→Option Nat) (h:Nat→Option Blk) (vs:Array Value),HeapR A C.N w β h→GlobR A C w β h→RArgs C w (Imm A w β h) β args vs→(∀b,w.heap.size≤b→A b)→
  Calls C.T.P fid vs w fun e w'=>∃v,e=.returned v∧Frm (fun _=>False) w w'∧Rel C.N w' (Imm A w' β h) β r v
 extr:∀k fid args h r,C.N.ν k=some fid→L.R k args h=some r→∀(A:Nat→Prop) (w:World) (β:Nat→Option Nat) (vs:Array Value),HeapR A C.N w β h→GlobR A C w β h→RArgs C w (Imm A w β h) β args vs→(∀b,w.heap.size≤b→A b)→
  Calls C.T.P fid vs w fun e w'=>∃v,e=.returned v∧Frm (fun _=>False) w w'∧Rel C.N w' (Imm A w' β h) β r v
 exty:∀k fid args H Post,C.N.ν k=some fid→L.Y k args H Post→∀(A:Nat→Prop) (w:World) (β:Nat→Option Nat) (vs:Array Value),(∀b,w.heap.size≤b∨Live β H.get b→A b)→(∀a,H.length≤a→β a=none)→HeapR A C.N w β H.get→GlobR A C w β H.get→RArgs C w (Imm A w β H.get) β args vs→
  Calls C.T.P fid vs w fun e w'=>∃v r H' β',e=.returned v∧Post r H'∧H.length≤H'.length∧(∀a,H'.length≤a→β' a=none)∧(∀a,a < H.length→β' a=β a)∧HeapR A C.N w' β' H'.get∧Rel C.N w' (Imm A w' β' H'.get) β' r v∧
   (∀b,Live β' H'.get b→w.heap.size≤b∨Live β H.get b)∧Frm (Live β H.get) w w'
def AFn (L:Lib) (k:Tgt) (args:List V) (H:Heap) (Post:V→Heap→Prop):Prop:=
 ∀(C:Ctx),Ok L C→∀(A:Nat→Prop) (w:World) (β:Nat→Option Nat) (vs:Array Value),(∀b,w.heap.size≤b∨Live β H.get b→A b)→(∀a,H.length≤a→β a=none)→HeapR A C.N w β H.get→GlobR A C w β H.get→RArgs C w (Imm A w β H.get) β args vs→
  RunAt C β k vs w fun e w'=>∃v r H' β',e=.returned v∧Post r H'∧H.length≤H'.length∧(∀a,H'.length≤a→β' a=none)∧(∀a,a < H.length→β' a=β a)∧HeapR A C.N w' β' H'.get∧Rel C.N w' (Imm A w' β' H'.get) β' r v∧
   (∀b,Live β' H'.get b→w.heap.size≤b∨Live β H.get b)∧Frm (Live β H.get) w w'
theorem AFn.mono {L:Lib} {k:Tgt} {args:List V} {H:Heap} {Post Post':V→Heap→Prop} (h:AFn L k args H Post) (hp:∀r H',Post r H'→Post' r H'):AFn L k args H Post':=
 fun C hC A w β vs hA hd hh hg ha=>(h C hC A w β vs hA hd hh hg ha).mono fun e w' ⟨v,r,H',β',h1,h2,h3⟩=>⟨v,r,H',β',h1,hp _ _ h2,h3⟩
structure Base where
 w0:World
 L0:Nat→Prop
 β0:Nat→Option Nat
 n0:Nat
 A:Nat→Prop
 hA:∀b,w0.heap.size≤b∨L0 b→A b
 rd:Option (Nat×Loop)
abbrev Base.fw (B:Base):Fence:=FW (B.rd.map Prod.fst)
def MarksOk (lo:Nat) (w:World) (ds:List Deferred):Prop:=
 ∃rs:List Nat,ds.map (·.target)=rs.map Target.collected∧rs.Nodup∧∀r∈rs,lo≤r∧w.heap[r]?=some (.deferred (some []))
theorem MarksOk.nil (lo:Nat) (w:World):MarksOk lo w []:=⟨[],rfl,List.nodup_nil,fun r h=>by cases h⟩
theorem HeapR.not_live {A:Nat→Prop} {N:Nums} {w:World} {β:Nat→Option Nat} {h:Nat→Option Blk} (hh:HeapR A N w β h) {r:Nat} {d:Option (List Deferred)} (hr:w.heap[r]?=some (.deferred d)):¬Live β h r:=fun ⟨a,h1,h2⟩=>by
 obtain ⟨k,hk⟩:=Option.ne_none_iff_exists'.1 h1
 obtain ⟨b,h3,_,h4⟩:=hh.at' a k hk
 rw [h2] at h3;cases h3
 obtain ⟨o,h5,h6⟩:=h4.obj
 rw [hr] at h5;cases h5;exact h6 d rfl
theorem MarksOk.frm {A:Nat→Prop} {N:Nums} {w w':World} {β:Nat→Option Nat} {h:Nat→Option Blk} (hh:HeapR A N w β h) {lo:Nat} {ds:List Deferred} (hm:MarksOk lo w ds) (hf:Frm (Live β h) w w'):MarksOk lo w' ds:=by
 obtain ⟨rs,h1,h2,h3⟩:=hm
 exact ⟨rs,h1,h2,fun r hr=>⟨(h3 r hr).1,(hf.block r (Array.getElem?_eq_some_iff.1 (h3 r hr).2).1 (hh.not_live (h3 r hr).2)).trans (h3 r hr).2⟩⟩
structure RS (C:Ctx) (B:Base) (N:Nat) (E:Nat→Option V) (h:Nat→Option Blk) (β:Nat→Option Nat) (a:Act) (w:World):Prop where
 size:a.tmps.size=N
 defers:MarksOk B.w0.heap.size w a.defers
 env:∀t v,E t=some v→∃x,a.tmps[t]?=some x∧Rel C.N w (Imm B.A w β h) β v x
 heap:HeapR B.A C.N w β h
 frm:Frm B.L0 B.w0 w
 own:∀b,Live β h b→B.w0.heap.size≤b∨B.L0 b
 keep:∀a,a < B.n0→β a=B.β0 a
 glob:GlobR B.A C w β h
 rnd:∀l rec,B.rd=some (l,rec)→w.heap[l]?=some (.loop rec)∧¬Live β h l
section
variable {L:Lib} {C:Ctx} {B:Base} {N:Nat} {E:Nat→Option V} {h:Nat→Option Blk} {β:Nat→Option Nat} {a:Act} {w:World}
theorem RS.opd (hC:Ok L C) (r:RS C B N E h β a w):OpdOk C w (Imm B.A w β h) β (opval L.G E) a:=by
 intro x y v hx hy
 cases x with
 | tmp t=>
  simp [Tr.opd] at hx;subst hx
  obtain ⟨z,hz,hr⟩:=r.env t v hy
  simp only [Act.eval]
  rw [Array.getD_eq_getD_getElem?,hz];exact hr
 | const c=>
  simp only [Tr.opd,Option.map_eq_some_iff] at hx
  obtain ⟨u,hu,rfl⟩:=hx
  simp [opval] at hy;subst hy
  exact V.of_rel c u hu
 | func f=>
  simp only [Tr.opd,Option.map_eq_some_iff] at hx
  obtain ⟨k,hk,rfl⟩:=hx
  simp [opval] at hy;subst hy
  exact .fn _ k f (C.fns f k hk) [] [] #[] #[] rfl rfl (fun i c y hc=>by simp at hc) (fun i c y hc=>by simp at hc)
 | global g=>
  simp only [Tr.opd,Option.map_eq_some_iff] at hx
  obtain ⟨k,hk,rfl⟩:=hx
  simp only [opval] at hy
  exact (r.glob g k v hk (by rw [hC.gl];exact hy)).mono (fun _ h=>h) (fun _ _=>rfl) (fun _ _ h=>h) (fun _ _ h=>by cases h)
theorem imm_frame {A:Nat→Prop} {β β':Nat→Option Nat} {h h':Nat→Option Blk} {w w':World} (hf:Frm (Live β h) w w') (hl:∀b,Live β' h' b→w.heap.size≤b∨Live β h b) (b:Nat) (hb:Imm A w β h b):Imm A w' β' h' b∧w'.heap[b]?=w.heap[b]?:=
 ⟨⟨Nat.lt_of_lt_of_le hb.lt hf.size,fun hl'=>(hl b hl').elim (fun h1=>by have:=hb.lt;omega) hb.free,hb.al,by rw [hf.block b hb.lt hb.free];exact hb.arr⟩,hf.block b hb.lt hb.free⟩
theorem GlobR.step {A:Nat→Prop} {β β':Nat→Option Nat} {h h':Nat→Option Blk} {w w':World} (hg:GlobR A C w β h) (hf:Frm (Live β h) w w') (hl:∀b,Live β' h' b→w.heap.size≤b∨Live β h b):GlobR A C w' β' h':=fun g k v h1 h2=>
 (hg g k v h1 h2).mono (fun b hb=>(imm_frame hf hl b hb).1) (fun b hb=>(imm_frame hf hl b hb).2) hf.room (fun _ _ h=>h)
theorem RS.step (r:RS C B N E h β a w) {β':Nat→Option Nat} {h':Nat→Option Blk} {w':World} (hβ:∀a b,β a=some b→β' a=some b) (hk:∀a,a < B.n0→β' a=β a) (hh:HeapR B.A C.N w' β' h') (hl:∀b,Live β' h' b→w.heap.size≤b∨Live β h b) (hf:Frm (Live β h) w w')
    {dst:Option Nat} {v:Option V} {x:Value} (hv:∀v',v=some v'→Rel C.N w' (Imm B.A w' β' h') β' v' x) (hd:∀d,dst=some d→d < N) :
    RS C B N (fun t=>if dst=some t then v else E t) h' β' (a.put dst x) w':=by
 refine ⟨?_,?_,fun t u ht=>?_,hh,r.frm.trans hf r.own,fun b hb=>?_,fun i hi=>(hk i hi).trans (r.keep i hi),r.glob.step hf hl,fun l rec hrd=>?_⟩
 ·cases dst with
  | none=>exact r.size
  | some d=>simp [Act.put,r.size]
 ·cases dst <;> exact r.defers.frm r.heap hf
 ·by_cases hdt:dst=some t
  ·rw [if_pos hdt] at ht
   subst hdt
   refine ⟨x,?_,hv u ht⟩
   have:=hd t rfl
   rw [←r.size] at this
   simp [Act.put,this]
  ·rw [if_neg hdt] at ht
   obtain ⟨y,hy,hr⟩:=r.env t u ht
   refine ⟨y,?_,hr.mono (fun b hb=>(imm_frame hf hl b hb).1) (fun b hb=>(imm_frame hf hl b hb).2) hf.room hβ⟩
   cases dst with
   | none=>exact hy
   | some d=>
    simp only [Act.put]
    rw [Array.getElem?_setIfInBounds_ne (fun e=>hdt (by rw [e]))];exact hy
 ·rcases hl b hb with h1|h1
  ·left;exact Nat.le_trans r.frm.size h1
  ·exact r.own b h1
 ·obtain ⟨h1,h2⟩:=r.rnd l rec hrd
  have hlt:=(Array.getElem?_eq_some_iff.1 h1).1
  exact ⟨(hf.block l hlt h2).trans h1,fun h3=>(hl l h3).elim (fun h4=>by omega) h2⟩
theorem HeapR.move {A:Nat→Prop} {N:Nums} {w w':World} {β:Nat→Option Nat} {h:Nat→Option Blk} (hh:HeapR A N w β h) (X:Nat→Prop) (hX:∀b,X b→¬Live β h b∧∀c T f,w.heap[b]?≠some (.cells c T f))
    (hsame:∀b,b < w.heap.size→¬X b→w'.heap[b]?=w.heap[b]?) (hsz:w.heap.size≤w'.heap.size) :
    (∀b,Imm A w β h b→Imm A w' β h b∧w'.heap[b]?=w.heap[b]?)∧(∀b m,Room w b m→Room w' b m)∧HeapR A N w' β h:=by
 have himm:∀b,Imm A w β h b→Imm A w' β h b∧w'.heap[b]?=w.heap[b]?:=fun b hb=>by
  have hx:¬X b:=fun hx=>by
   obtain ⟨c,T,f,hc⟩:=hb.arr
   exact (hX b hx).2 c T f hc
  have e:=hsame b hb.lt hx
  exact ⟨⟨Nat.lt_of_lt_of_le hb.lt hsz,hb.free,hb.al,by rw [e];exact hb.arr⟩,e⟩
 have hroom:∀b m,Room w b m→Room w' b m:=fun b m ⟨cells,T,fz,h1,h2⟩=>by
  refine ⟨cells,T,fz,?_,h2⟩
  rw [hsame b (Array.getElem?_eq_some_iff.1 h1).1 (fun hx=>(hX b hx).2 _ _ _ h1)];exact h1
 refine ⟨himm,hroom,⟨fun a k hk=>?_,hh.inj⟩⟩
 obtain ⟨b,h1,h2,h3⟩:=hh.at' a k hk
 exact ⟨b,h1,Nat.lt_of_lt_of_le h2 hsz,h3.mono (hsame b h2 (fun hx=>(hX b hx).1 ⟨a,by rw [hk];simp,h1⟩)) (fun b hb=>(himm b hb).1) (fun b hb=>(himm b hb).2) hroom (fun _ _ h=>h)⟩
theorem RS.move (r:RS C B N E h β a w) {w':World} (X:Nat→Prop) (hX:∀b,X b→¬Live β h b∧∀c T f,w.heap[b]?≠some (.cells c T f))
    (hsame:∀b,b < w.heap.size→¬X b→w'.heap[b]?=w.heap[b]?) (hsz:w.heap.size≤w'.heap.size) (hX0:∀b,X b→B.w0.heap.size≤b∨B.L0 b) (hXr:∀l rec,B.rd=some (l,rec)→¬X l)
    (ho:w'.os=w.os) (ht:w'.tape=w.tape) (hp:w'.output=w.output) {a':Act} (ha:a'.tmps=a.tmps) (hd:MarksOk B.w0.heap.size w' a'.defers):RS C B N E h β a' w':=by
 obtain ⟨himm,hroom,hh⟩:=r.heap.move X hX hsame hsz
 refine ⟨by rw [ha];exact r.size,hd,fun t v hv=>?_,hh,⟨ho.trans r.frm.os,ht.trans r.frm.tape,hp.trans r.frm.output,Nat.le_trans r.frm.size hsz,fun b hb hl=>?_,fun b m hm=>hroom b m (r.frm.room b m hm)⟩,r.own,r.keep,fun g k v h1 h2=>?_,fun l rec hrd=>?_⟩
 ·obtain ⟨x,hx,hr⟩:=r.env t v hv
  exact ⟨x,by rw [ha];exact hx,hr.mono (fun b hb=>(himm b hb).1) (fun b hb=>(himm b hb).2) hroom (fun _ _ h=>h)⟩
 ·rw [hsame b (Nat.lt_of_lt_of_le hb r.frm.size) (fun hx=>(hX0 b hx).elim (fun h=>by omega) hl)]
  exact r.frm.block b hb hl
 ·exact (r.glob g k v h1 h2).mono (fun b hb=>(himm b hb).1) (fun b hb=>(himm b hb).2) hroom (fun _ _ h=>h)
 ·obtain ⟨h1,h2⟩:=r.rnd l rec hrd
  exact ⟨(hsame l (Array.getElem?_eq_some_iff.1 h1).1 (hXr l rec hrd)).trans h1,h2⟩
theorem HeapR.forget {A:Nat→Prop} {N:Nums} {w:World} {β:Nat→Option Nat} {h:Nat→Option Blk} (hh:HeapR A N w β h) (n:Nat) :
    (∀b,Imm A w β h b→Imm A w β (fun a=>if a=n then none else h a) b)∧HeapR A N w β (fun a=>if a=n then none else h a):=by
 have hl:∀b,Live β (fun a=>if a=n then none else h a) b→Live β h b:=fun b ⟨a,h1,h2⟩=>by
  by_cases e:a=n
  ·simp [e] at h1
  ·simp only [e,if_false] at h1;exact ⟨a,h1,h2⟩
 have himm:∀b,Imm A w β h b→Imm A w β (fun a=>if a=n then none else h a) b:=fun b hb=>⟨hb.lt,fun h=>hb.free (hl b h),hb.al,hb.arr⟩
 refine ⟨himm,⟨fun a k hk=>?_,fun a a' b h1 h2 h3 h4=>?_⟩⟩
 ·by_cases e:a=n
  ·simp [e] at hk
  ·simp only [e,if_false] at hk
   obtain ⟨b,h1,h2,h3⟩:=hh.at' a k hk
   exact ⟨b,h1,h2,h3.mono rfl himm (fun _ _=>rfl) (fun _ _ h=>h) (fun _ _ h=>h)⟩
 ·by_cases e:a=n
  ·simp [e] at h1
  ·by_cases e':a'=n
   ·simp [e'] at h2
   ·simp only [e,e',if_false] at h1 h2;exact hh.inj a a' b h1 h2 h3 h4
theorem RS.forget (r:RS C B N E h β a w) (n:Nat):RS C B N E (fun a=>if a=n then none else h a) β a w:=by
 obtain ⟨himm,hh⟩:=r.heap.forget n
 have hl:∀b,Live β (fun a=>if a=n then none else h a) b→Live β h b:=fun b ⟨a,h1,h2⟩=>by
  by_cases e:a=n
  ·simp [e] at h1
  ·simp only [e,if_false] at h1;exact ⟨a,h1,h2⟩
 exact ⟨r.size,r.defers,fun t v hv=>let ⟨x,hx,hr⟩:=r.env t v hv;⟨x,hx,hr.mono himm (fun _ _=>rfl) (fun _ _ h=>h) (fun _ _ h=>h)⟩,hh,r.frm,fun b hb=>r.own b (hl b hb),r.keep,
  fun g k v h1 h2=>(r.glob g k v h1 h2).mono himm (fun _ _=>rfl) (fun _ _ h=>h) (fun _ _ h=>h),fun l rec hrd=>⟨(r.rnd l rec hrd).1,fun h=>(r.rnd l rec hrd).2 (hl l h)⟩⟩
structure Rec where
 dst:Option Nat
 looks:List Nat
 v:Option V
 need:List Nat
 eff:List (Nat×Option Blk)
 slot:Nat
 k:Nat
def Rec.env (r:Rec) (E:Nat→Option V) (t:Nat):Option V:=if r.dst=some t then r.v else E t
def Rec.heap (r:Rec) (h:Nat→Option Blk) (a:Nat):Option Blk:=match r.eff.find? (fun p=>p.1 == a) with|some p=>p.2|none=>h a
def RecOk (C:Ctx) (N:Nat) (ops:Array Oper) (o:Oper) (r:Rec) (E0:Nat→Option V) (h0:Nat→Option Blk):Prop:=
 ∀(B:Base) (E:Nat→Option V) (h:Nat→Option Blk) (β:Nat→Option Nat) (a:Act) (w:World),(∀t∈r.looks,E t=E0 t)→(∀a∈r.need,h a=h0 a)→(∀i,r.slot≤i→i < r.slot+r.k→β i=none)→B.n0≤r.slot→RS C B N E h β a w→
  ∀(K:Act→World→Prop) (Q:Exit→Act→World→Prop),(∀a' w' β',(∀i,¬(r.slot≤i∧i < r.slot+r.k)→β' i=β i)→RS C B N (r.env E) (r.heap h) β' a' w'→K a' w')→
   if Region.wanted o (yielded ops a.tmps) then o.wpIn B.fw 0 C.T.P a w K Q else K (a.put o.dst undef) w
def AI.looks (i:AI):List Nat:=i.op.opds.flatMap AOpd.tmps++(match i.guard with|some (t,_)=>[t]|none=>[])
def AI.goes (i:AI) (E:Nat→Option V):Option Bool:=
 match i.guard with
 | none=>some true
 | some (t,want)=>match E t with|some (.bool b)=>some (b == want)|some (.tup [])=>some false|_=>none
def Eff.all (e:Eff) (n:Nat):List (Nat×Option Blk):=(e.new.zipIdx.map fun p=>(n+p.2,some p.1))++e.upd
theorem find_zip (l:List Blk) (n a:Nat):∀st,((l.zipIdx st).map fun p=>(n+p.2,some p.1)).find? (fun p=>p.1 == a)=if n+st≤a∧a < n+st+l.length then (l[a - (n+st)]?).map (fun k=>(a,some k)) else none:=by
 induction l with
 | nil=>intro st;simp
 | cons x l ih=>
  intro st
  rw [List.zipIdx_cons,List.map_cons,List.find?_cons]
  by_cases h1:n+st=a
  ·subst h1
   simp
  ·have:(((n+(x,st).2,some (x,st).1):Nat×Option Blk).1 == a)=false:=by simp [h1]
   rw [this,ih (st+1)]
   simp only [List.length_cons]
   by_cases h2:n+(st+1)≤a∧a < n+(st+1)+l.length
   ·rw [if_pos h2,if_pos (by omega),show a - (n+st)=a - (n+(st+1))+1 by omega];simp
   ·rw [if_neg h2]
    by_cases h3:n+st≤a∧a < n+st+(l.length+1)
    ·omega
    ·rw [if_neg h3]
theorem Eff.all_heap (e:Eff) (n:Nat) (h:Nat→Option Blk) (a:Nat):(match (e.all n).find? (fun p=>p.1 == a) with|some p=>p.2|none=>h a)=e.heap n h a:=by
 unfold Eff.all Eff.heap
 rw [List.find?_append,find_zip e.new n a 0]
 by_cases h1:n≤a∧a < n+e.new.length
 ·have h2:n+0≤a∧a < n+0+e.new.length:=by omega
  rw [if_pos h1,if_pos h2]
  have h3:e.new[a - n]?=some (e.new[a - n]'(by omega)):=List.getElem?_eq_getElem (by omega)
  rw [Nat.add_zero,h3];rfl
 ·have h2:¬(n+0≤a∧a < n+0+e.new.length):=by omega
  rw [if_neg h1,if_neg h2];rfl
theorem Tr.oper_spec {T:Tr} {nt:Nat} {ops:Array Oper} {draw:Bool} {i:Nat} {o:Oper} {ai:AI} (h:T.oper nt ops draw i o=some ai) :
    (ai.op≠.no→T.op o.op=some ai.op∨T.xop o.op=some ai.op)∧ai.dst=o.dst∧(∀d,o.dst=some d→d < nt)∧(draw=true→ai.anc=Tr.deps o)∧(∀d∈Tr.deps o,d < i)∧
     (match o.guard with|none=>ai.guard=none|some (j,want)=>∃t,(ops[j]?).bind (·.dst)=some t∧ai.guard=some (t,want))∧(ai.op.isCall=true→Tr.isFnCall o.op=true):=by
 obtain ⟨dst,op,ty,pos,aft,g⟩:=o
 unfold Tr.oper at h
 simp only [Option.bind_eq_some_iff] at h
 obtain ⟨op',hop,g',hg,h⟩:=h
 simp only [Option.some.injEq] at hop
 rw [Option.ite_none_right_eq_some] at h
 obtain ⟨hc,h⟩:=h
 simp only [Option.some.injEq] at h
 subst h
 rw [Bool.and_eq_true,Bool.and_eq_true,List.all_eq_true] at hc
 obtain ⟨hc,hcall⟩:=hc
 refine ⟨fun hne=>?_,rfl,fun d hd=>?_,fun hd=>by simp [hd],fun d hd=>by simpa using hc.2 d hd,?_,fun hi=>?_⟩
 ·cases hq:T.op op with
  | some a=>rw [hq] at hop;simp at hop;rw [hop];exact .inl rfl
  | none=>
   rw [hq] at hop
   right
   cases hx:T.xop op with
   | some a=>rw [hx] at hop;simp at hop;rw [hop]
   | none=>rw [hx] at hop;simp at hop;exact absurd hop.symm hne
 ·simp only at hd
  subst hd
  simpa using hc.1
 ·cases g with
  | none=>simp at hg;simp [hg]
  | some jw=>
   obtain ⟨j,want⟩:=jw
   simp only [Option.map_eq_some_iff] at hg
   obtain ⟨t,ht,rfl⟩:=hg
   exact ⟨t,ht,rfl⟩
 ·simp only at hi
  rw [hi] at hcall
  simpa using hcall
theorem goes_wanted {nt:Nat} {ops:Array Oper} {draw:Bool} {i:Nat} {o:Oper} {ai:AI} (hai:C.T.oper nt ops draw i o=some ai) (r:RS C B N E h β a w) {b:Bool} (hb:ai.goes E=some b):Region.wanted o (yielded ops a.tmps)=b:=by
 obtain ⟨_,_,_,_,_,hg,_⟩:=Tr.oper_spec hai
 unfold AI.goes at hb
 unfold Region.wanted
 cases hq:o.guard with
 | none=>rw [hq] at hg;simp only at hg;rw [hg] at hb;simpa using hb
 | some jw=>
  obtain ⟨j,want⟩:=jw
  rw [hq] at hg
  obtain ⟨t,ht,hgt⟩:=hg
  rw [hgt] at hb
  simp only at hb
  split at hb
  ·rename_i b' hE
   simp only [Option.some.injEq] at hb
   obtain ⟨x,hx,hr⟩:=r.env t _ hE
   cases hr
   have:yielded ops a.tmps j=some b':=by
    unfold yielded
    rw [ht,Option.bind_some,hx]
   simp only [this]
   rw [←hb]
   cases b' <;> cases want <;> rfl
  ·rename_i hE
   simp only [Option.some.injEq] at hb
   obtain ⟨x,hx,hr⟩:=r.env t _ hE
   cases hr
   have:yielded ops a.tmps j=none:=by
    unfold yielded
    rw [ht,Option.bind_some,hx]
   simp only [this]
   rw [←hb]
   rfl
  ·cases hb
theorem xkind_run {P:Program} {fn:Func} {k f:Nat} (hf:P.funcs[f]?=some fn) (hk:Tr.xkind fn=some k) (s:ByteArray) (c:Int) {r:V} (hr:xfnV k (.str s.data.toList) (.int .u8 c)=some r) (w:World):∃z:Int,r=.int .i64 z∧(callFunc f #[.string s,.int .u8 c]).run P w=.ok (.value (.int .i64 z)) w:=by
 unfold Tr.xkind at hk
 split at hk
 ·rename_i hb
  rw [Bool.and_eq_true] at hb
  obtain ⟨hb,ho⟩:=hb
  have ho:fn.origin="":=by simpa using ho
  split at hk
  ·rename_i hn
   have hn:fn.name="internal/bytealg.CountString":=by simpa using hn
   cases hk
   cases hr
   refine ⟨_,rfl,?_⟩
   rw [run_callFunc_extern hf (by rw [hn];rfl) hb (e:=Extern.BytealgCount.count) (by unfold Extern.findNext;rw [hn,ho];rfl) (by unfold Extern.find;rw [hn,ho];rfl),Lib.run_countString]
   rfl
  ·split at hk
   ·rename_i hn
    have hn:fn.name="internal/bytealg.IndexByteString":=by simpa using hn
    cases hk
    cases hr
    refine ⟨_,rfl,?_⟩
    rw [run_callFunc_extern hf (by rw [hn];rfl) hb (e:=Extern.BytealgIndexByte.indexByte) (by unfold Extern.findNext;rw [hn,ho];rfl) (by unfold Extern.find;rw [hn,ho];rfl),Lib.run_indexByteString]
    rfl
   ·cases hk
 ·cases hk
theorem exec_soundX {A:Nat→Prop} {w:World} {β:Nat→Option Nat} {h:Nat→Option Blk} {a:Act} {n:Nat} {ρ:AOpd→Option V} (hh:HeapR A C.N w β h) (ho:OpdOk C w (Imm A w β h) β ρ a) {o:Oper} {ao:AOp} (hop:C.T.op o.op=some ao∨C.T.xop o.op=some ao) {e:Eff} (he:ao.exec n h ρ=some e) (hn:e.new≠[]→β n=none) (hhn:e.new≠[]→h n=none):Runs A C w β h n e (execOp a.eval o):=by
 rcases hop with hop|hop
 ·exact exec_sound hh ho hop he hn hhn
 ·unfold Tr.xop at hop
  split at hop
  ·rename_i c hc
   split at hop
   ·rename_i f x y hcal hargs
    simp only [Option.bind_eq_some_iff,Option.map_eq_some_iff] at hop
    obtain ⟨k,hxk,ax,hax,ay,hay,rfl⟩:=hop
    obtain ⟨fn,hfn,hk⟩:=C.xks f k hxk
    unfold AOp.exec AOp.exec0 at he
    obtain ⟨vx,hvx,he⟩:=Option.bind_eq_some_iff.1 he
    obtain ⟨vy,hvy,he⟩:=Option.bind_eq_some_iff.1 he
    obtain ⟨v,hv,he⟩:=Option.bind_eq_some_iff.1 he
    cases he
    have hx:=ho x ax vx hax hvx
    have hy:=ho y ay vy hay hvy
    have hform:∃s c,vx=.str s∧vy=.int .u8 c:=by
     unfold xfnV at hv
     split at hv <;> first|exact ⟨_,_,rfl,rfl⟩|cases hv
    obtain ⟨s,c',rfl,rfl⟩:=hform
    generalize hX:a.eval x=X at hx
    generalize hY:a.eval y=Y at hy
    cases hx
    cases hy
    rename_i bs
    obtain ⟨z,rfl,hrun⟩:=xkind_run hfn hk _ _ hv w
    have hargs':c.args=#[x,y]:=by apply Array.ext';simp [hargs]
    refine ⟨.int .i64 z,w,.inl ?_,effOk_same hh rfl rfl rfl rfl rfl rfl (.int _ _ _)⟩
    unfold execOp
    rw [hc]
    dsimp only
    unfold resolve
    rw [hcal,hargs']
    simp only [List.map_toArray,List.map_cons,List.map_nil,hX,hY]
    exact hrun
   ·cases hop
  ·cases hop
def AI.plain (G:Nat→Option V) (i:AI) (slot:Nat) (E:Nat→Option V) (h:Nat→Option Blk):Option Rec:=
 match i.goes E with
 | some false=>some { dst:=i.dst,looks:=i.looks,v:=some (.tup []),need:=[],eff:=[],slot,k:=0 }
 | some true=>(i.op.exec slot h (opval G E)).map fun e=>{ dst:=i.dst,looks:=i.looks,v:=some e.v,need:=e.need,eff:=e.all slot,slot,k:=e.new.length }
 | none=>none
theorem looks_opd {ai:AI} {E E0:Nat→Option V} (G:Nat→Option V) (h:∀t∈ai.looks,E t=E0 t):∀x∈ai.op.opds,opval G E x=opval G E0 x:=fun x hx=>by
 cases x with
 | t n=>exact h n (List.mem_append_left _ (List.mem_flatMap.2 ⟨_,hx,by simp [AOpd.tmps]⟩))
 | _=>rfl
theorem looks_goes {ai:AI} {E E0:Nat→Option V} (h:∀t∈ai.looks,E t=E0 t):ai.goes E=ai.goes E0:=by
 unfold AI.goes
 cases hq:ai.guard with
 | none=>rfl
 | some tw=>
  obtain ⟨t,want⟩:=tw
  have:E t=E0 t:=h t (List.mem_append_right _ (by rw [hq];simp))
  simp only [this]
theorem plain_ok (hC:Ok L C) {nt:Nat} {ops:Array Oper} {draw:Bool} {i:Nat} {o:Oper} {ai:AI} (hai:C.T.oper nt ops draw i o=some ai) {slot:Nat} {E0:Nat→Option V} {h0:Nat→Option Blk} {r:Rec} (hr:ai.plain L.G slot E0 h0=some r):RecOk C nt ops o r E0 h0:=by
 intro B E h β a w hE hh hs hn0 rs K Q hK
 obtain ⟨hop,hdst,hdn,_,_,_,_⟩:=Tr.oper_spec hai
 unfold AI.plain at hr
 split at hr
 ·rename_i hg
  simp only [Option.some.injEq] at hr
  subst hr
  have hg':ai.goes E=some false:=by rw [looks_goes hE];exact hg
  rw [goes_wanted hai rs hg']
  simp only [Bool.false_eq_true,if_false]
  refine hK _ _ β (fun _ _=>rfl) ?_
  rw [←hdst]
  have:=rs.step (β':=β) (h':=h) (w':=w) (dst:=ai.dst) (v:=some (.tup [])) (x:=undef) (fun _ _ h=>h) (fun _ _=>rfl) rs.heap (fun _ h=>.inr h) (Frm.refl _ _) (fun v' hv=>by cases hv;exact .tup β [] #[] rfl (fun i c y hc=>by simp at hc)) (fun d hd=>hdn d (by rw [←hdst];exact hd))
  exact this
 ·rename_i hg
  simp only [Option.map_eq_some_iff] at hr
  obtain ⟨e,he,rfl⟩:=hr
  have hg':ai.goes E=some true:=by rw [looks_goes hE];exact hg
  rw [goes_wanted hai rs hg']
  simp only [if_true]
  have he':ai.op.exec slot h (opval L.G E)=some e:=by
   have h1:=exec_rho slot h0 ai.op (looks_opd L.G hE)
   exact exec_get (by rw [h1];exact he) hh
  have hnone:∀i,slot≤i→i < slot+e.new.length→β i=none∧h i=none:=fun i h1 h2=>by
   have h3:=hs i h1 h2
   refine ⟨h3,?_⟩
   cases hq:h i with
   | none=>rfl
   | some k=>obtain ⟨b,hb,_⟩:=rs.heap.at' i k hq;rw [h3] at hb;cases hb
  have hne:e.new≠[]→slot < slot+e.new.length:=fun hne=>by
   have:=List.length_pos_iff.2 hne;omega
  have hop:=hop (fun hno=>by rw [hno] at he';simp [AOp.exec,AOp.exec0] at he')
  obtain ⟨x,w',hrun,β',g1,g2,g3,g4,g5⟩:=exec_soundX rs.heap (rs.opd hC) hop he' (fun hne'=>(hnone slot (Nat.le_refl _) (hne hne')).1) (fun hne'=>(hnone slot (Nat.le_refl _) (hne hne')).2)
  have hheap:({ dst:=ai.dst,looks:=ai.looks,v:=some e.v,need:=e.need,eff:=e.all slot,slot:=slot,k:=e.new.length }:Rec).heap h=e.heap slot h:=by
   funext q;exact Eff.all_heap e slot h q
  have hfin:K (a.put o.dst x) w':=by
   refine hK _ _ β' (fun i hi=>g1 i hi) ?_
   rw [hheap,←hdst]
   exact rs.step (v:=some e.v) (fun q b hq=>by
    by_cases hin:slot≤q∧q < slot+e.new.length
    ·rw [(hnone q hin.1 hin.2).1] at hq;cases hq
    ·rw [g1 q hin];exact hq) (fun q hq=>g1 q (by have:B.n0≤slot:=hn0;omega)) g2 g4 g5 (fun v' hv'=>by cases hv';exact g3) (fun d hd=>hdn d (by rw [←hdst];exact hd))
  unfold Oper.wpIn
  refine ⟨fun _ _=>trivial,?_⟩
  rw [Oper.semAt_eq _ _ _ (fun c hc=>by rw [hc] at hop;simp [Tr.op,Tr.xop] at hop)]
  rcases hrun with hrun|⟨hrun,hx⟩
  ·rw [hrun];exact hfin
  ·rw [hrun];rw [hx] at hfin;exact hfin
 ·cases hr
end
end Go.Proofs.YtigdhgbkgfagiaaGreat
