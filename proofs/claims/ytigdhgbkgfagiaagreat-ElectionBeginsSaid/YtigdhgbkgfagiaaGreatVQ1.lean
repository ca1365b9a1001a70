/- AL: the program at hand. · AL: a great function, put together from its parts. -/
import Derived.Test.YtigdhgbkgfagiaaGreatChecked
import Derived.Test.YtigdhgbkgfagiaaGreatVA3
import Derived.KernelRfl
set_option maxRecDepth 100000
set_option linter.unusedVariables false
namespace Go.Proofs.YtigdhgbkgfagiaaGreat
def noBody:List Nat:=[0,1,228,229,230,231,232,233,234,235,236,237,238,239,240,241,242,243,244,245,246]
def xkOf (f:Nat):Option Nat:=none
noncomputable def CT:Tr:={ P:=Tryz.prog,fns:=fun f=>bif Nat.blt f 247&&!memB f noBody then some f else none,tys:=some,gls:=some,xk:=xkOf }
theorem CT_fns {f k:Nat} (h:CT.fns f=some k):f=k∧k < 247∧memB k noBody=false:=by
 have h':(bif Nat.blt f 247&&!memB f noBody then some f else none)=some k:=h
 cases hb:(Nat.blt f 247&&!memB f noBody) with
 | false=>rw [hb] at h';cases h'
 | true=>
  rw [hb] at h'
  simp only [cond_true,Option.some.injEq] at h'
  subst h'
  rw [Bool.and_eq_true] at hb
  exact ⟨rfl,blt_lt hb.1,by simpa using hb.2⟩
theorem bodies:((List.range 247).all fun k=>memB k noBody||(match Tryz.prog.funcs[k]? with|some f=>!f.body.isNone&&!(f.name == "runtime.NumGoroutine")|none=>false))=true:=by kernel_rfl
noncomputable def CN:Nums:={ ν:=CT.fns,τ:=some,κ:=fun n c x=>∃kills,CT.code n kills c=some x }
theorem CT_mixed:CT.P.follows .mixedOrders=true:=by
 show Tryz.prog.follows .mixedOrders=true
 kernel_rfl
theorem xks_ok (f k:Nat) (h:xkOf f=some k):∃fn,Tryz.prog.funcs[f]?=some fn∧Tr.xkind fn=some k:=by
 unfold xkOf at h
 cases h
noncomputable def CC:Ctx:={ T:=CT,N:=CN,G:=fun _=>none,fns:=fun f k h=>by obtain ⟨rfl,_⟩:=CT_fns h;exact h,tys:=fun t k h=>by cases (show some t=some k from h);rfl,xks:=xks_ok,mixed:=CT_mixed,codes:=fun _ _ _=>Iff.rfl }
def Cert (k:Nat) (F:AFunc):Prop:=∃f,Tryz.prog.funcs[k]?=some f∧CT.func F.kills f=some F
def Tri.all {α:Type} (P:Nat→α→Prop):Tri α→(Nat→Nat)→Prop
 | .e,_=>True
 | .n l v r,f=>(∀x,v=some x→P (f 0) x)∧Tri.all P l (fun i=>f (2*i+1))∧Tri.all P r (fun i=>f (2*i+2))
theorem Tri.all_get {α:Type} {P:Nat→α→Prop}:∀{t:Tri α} {f:Nat→Nat} {i:Nat} {x:α},Tri.all P t f→t.get i=some x→P (f i) x
 | .e,f,i,x,_,h=>by simp [Tri.get] at h
 | .n l v r,f,i,x,⟨h1,h2,h3⟩,h=>by
  rw [Tri.step_get] at h
  split at h
  ·rename_i h0;subst h0;exact h1 x h
  ·split at h
   ·have:=Tri.all_get h2 h
    rwa [show 2*(i / 2)+1=i by omega] at this
   ·have:=Tri.all_get h3 h
    rwa [show 2*(i / 2 - 1)+2=i by omega] at this
theorem okS {α:Type} {P:Nat→α→Prop} {k:Nat} {a:α} (h:P k a):∀x,some a=some x→P k x:=fun x e=>by cases e;exact h
theorem okN {α:Type} {P:Nat→α→Prop} {k:Nat}:∀x,(none:Option α)=some x→P k x:=fun x e=>by cases e
theorem hr0:HR .e 0 []:=⟨rfl,by funext a;simp [Heap.get,Tri.get]⟩
theorem func_kills {T:Tr} {ks:List (List Nat)} {f:Func} {F:AFunc} (h:T.func ks f=some F):F.kills=ks:=by
 unfold Tr.func at h
 simp only [Option.bind_eq_some_iff] at h
 obtain ⟨code,_,ac,_,rs,_,h⟩:=h
 rw [Option.ite_none_right_eq_some] at h
 obtain ⟨_,h⟩:=h
 cases h;rfl
theorem cert_of {k:Nat} {ks:List (List Nat)} {f:Func} {F:AFunc} (h:CT.func ks f=some F) (hf:Tryz.prog.funcs[k]?=some f):Cert k F:=⟨f,hf,by rw [func_kills h];exact h⟩
end Go.Proofs.YtigdhgbkgfagiaaGreat
namespace Go.Proofs.YtigdhgbkgfagiaaGreat
def pl:Code→Code
 | .seq a _|.cond _ a _|.block _ a|.loop a|.rangeFunc _ _ a _|.scope a=>a
 | c=>c
def pr:Code→Code
 | .seq _ b|.cond _ _ b|.rangeFunc _ _ _ b=>b
 | c=>c
def cb (f:Func):Code:=f.body.getD .skip
def tagC:Code→Nat
 | .seq _ _=>1
 | .cond _ _ _=>2
 | .loop _=>3
 | .scope _=>4
 | .rangeFunc _ _ _ _=>5
 | .block i _=>6+i
 | _=>0
def opC:Code→Operand
 | .cond x _ _|.rangeFunc x _ _ _=>x
 | _=>.tmp 0
def psC:Code→List Nat
 | .rangeFunc _ ps _ _=>ps.toList
 | _=>[]
def PC (n:Nat) (ks:List (List Nat)) (c:Code):={ A:AC // CT.code n ks c=some A }
section
variable {n:Nat} {ks:List (List Nat)} {c:Code}
noncomputable def PC.seq (a:PC n ks (pl c)) (b:PC n ks (pr c)) (h:tagC c=1:=by kernel_rfl):PC n ks c:=⟨.seq a.1 b.1,by
 cases c with
 | seq x y=>
  show ((CT.code n ks x).bind fun a'=>(CT.code n ks y).map (AC.seq a'))=_
  rw [show CT.code n ks x=some a.1 from a.2,show CT.code n ks y=some b.1 from b.2];rfl
 | block i x=>simp only [tagC] at h;omega
 | _=>cases h⟩
noncomputable def PC.cond (x:AOpd) (a:PC n ks (pl c)) (b:PC n ks (pr c)) (h:tagC c=2:=by kernel_rfl) (hx:CT.opd (opC c)=some x:=by kernel_rfl):PC n ks c:=⟨.cond x a.1 b.1,by
 cases c with
 | cond o u v=>
  show ((CT.opd o).bind fun c=>(CT.code n ks u).bind fun a'=>(CT.code n ks v).map (AC.cond c a'))=_
  rw [show CT.opd o=some x from hx,show CT.code n ks u=some a.1 from a.2,show CT.code n ks v=some b.1 from b.2];rfl
 | block i x=>simp only [tagC] at h;omega
 | _=>cases h⟩
noncomputable def PC.loop (a:PC n ks (pl c)) (h:tagC c=3:=by kernel_rfl):PC n ks c:=⟨.loop a.1,by
 cases c with
 | loop u=>
  show (CT.code n ks u).map AC.loop=_
  rw [show CT.code n ks u=some a.1 from a.2];rfl
 | block i x=>simp only [tagC] at h;omega
 | _=>cases h⟩
noncomputable def PC.scope (a:PC n ks (pl c)) (h:tagC c=4:=by kernel_rfl):PC n ks c:=⟨a.1,by
 cases c with
 | scope u=>exact a.2
 | block i x=>simp only [tagC] at h;omega
 | _=>cases h⟩
noncomputable def PC.block (i:Nat) (a:PC n ks (pl c)) (h:tagC c=6+i:=by kernel_rfl):PC n ks c:=⟨.block i a.1,by
 cases c with
 | block j u=>
  have e:j=i:=by simp [tagC] at h;omega
  subst e
  show (CT.code n ks u).map (AC.block j)=_
  rw [show CT.code n ks u=some a.1 from a.2];rfl
 | _=>simp [tagC] at h <;> omega⟩
noncomputable def PC.range (x:AOpd) (ps:List Nat) (a:PC n ks (pl c)) (b:PC n ks (pr c)) (h:tagC c=5:=by kernel_rfl) (hx:CT.opd (opC c)=some x:=by kernel_rfl) (hp:psC c=ps:=by kernel_rfl):PC n ks c:=⟨.range x ps a.1 b.1,by
 cases c with
 | rangeFunc o q u v=>
  show ((CT.opd o).bind fun g=>(CT.code n ks u).bind fun a'=>(CT.code n ks v).map (AC.range g q.toList a'))=_
  rw [show CT.opd o=some x from hx,show CT.code n ks u=some a.1 from a.2,show CT.code n ks v=some b.1 from b.2,show q.toList=ps from hp];rfl
 | block i x=>simp only [tagC] at h;omega
 | _=>cases h⟩
end
noncomputable def FN (ks:List (List Nat)) (f:Func) (nt na:Nat) (rs:List ARes) (A:PC nt ks (cb f)) (hb:f.body.isSome=true:=by kernel_rfl) (hn:f.ntmps=nt:=by kernel_rfl) (ha:f.params.size+f.nfree=na:=by kernel_rfl) (hr:CT.ress f.results.toList=some rs:=by kernel_rfl) (hk:(Nat.ble na nt&&!(f.name == "runtime.NumGoroutine"))=true:=by kernel_rfl):{ F:AFunc // CT.func ks f=some F }:=
 ⟨{ ntmps:=nt,nargs:=na,kills:=ks,results:=rs,body:=A.1 },by
  obtain ⟨B,hB⟩:∃B,f.body=some B:=Option.isSome_iff_exists.1 hb
  have hc:cb f=B:=by unfold cb;rw [hB];rfl
  have h2:CT.code nt ks B=some A.1:=by rw [←hc];exact A.2
  rw [Bool.and_eq_true] at hk
  have h3:=Nat.le_of_ble_eq_true hk.1
  have h4:(f.name == "runtime.NumGoroutine")=false:=by simpa using hk.2
  unfold Tr.func
  rw [hB,hn,ha,Option.bind_some,h2,Option.bind_some,hr,Option.bind_some,if_pos ⟨h3,h4⟩]⟩
abbrev TfQ (k:List (List Nat)) (f:Func):={ F:AFunc // CT.func k f=some F }
end Go.Proofs.YtigdhgbkgfagiaaGreat
