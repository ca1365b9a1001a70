/- AL: regions whose order is the text's; calls. · AL: regions that draw their order: whatever order is drawn, what the text's order gives. · AL: other numbers for the blocks: forgetting, renaming, freezing; a call in a part of the heap. · AL: a state may be forgotten in part, renamed, frozen; a contract holds in every larger heap. · AL: a contract that is shown in a small heap holds in every heap that holds a picture of it. · AL: regions that draw their order, carried out in the text's order. · AL: code, and functions. · AL: a range over a function; a round of it. -/
import Derived.Test.YtigdhgbkgfagiaaGreatVA1
import Derived.Orders
import Derived.RangeFuncRecord
import Derived.RangeFuncNested
set_option linter.unusedVariables false
namespace Go.Proofs.YtigdhgbkgfagiaaGreat
theorem Env.get_set (E:Env) (t:Nat) (v:V) (t':Nat):(E.set t v).get t'=if t=t' then some v else E.get t':=by
 induction E with
 | nil=>
  simp only [Env.set,Env.get]
  by_cases h:t=t'
  ·simp [h]
  ·have:(t == t')=false:=by simp [h]
   simp [h,this]
 | cons p r ih=>
  obtain ⟨k,u⟩:=p
  simp only [Env.set]
  by_cases h1:k=t
  ·subst h1
   simp only [beq_self_eq_true,cond_true,Env.get]
   by_cases h:k=t'
   ·simp [h]
   ·have:(k == t')=false:=by simp [h]
    simp [h,this]
  ·have e1:(k == t)=false:=by simp [h1]
   rw [e1,cond_false]
   cases h2:t.blt k with
   | true=>
    simp only [cond_true,Env.get]
    by_cases h:t=t'
    ·simp [h]
    ·have:(t == t')=false:=by simp [h]
     simp [h,this]
   | false=>
    simp only [cond_false,Env.get,ih]
    by_cases h:k=t'
    ·subst h
     have:¬t=k:=fun e=>h1 e.symm
     simp [this]
    ·have:(k == t')=false:=by simp [h]
     rw [this,cond_false,cond_false]
theorem Env.get_kill (E:Env) (ks:List Nat) (t:Nat):(E.kill ks).get t=if ks.contains t then none else E.get t:=by
 induction E with
 | nil=>simp [Env.kill,Env.get]
 | cons p r ih=>
  obtain ⟨k,u⟩:=p
  unfold Env.kill at ih ⊢
  rw [List.filter_cons]
  by_cases h1:ks.contains k=true
  ·simp only [h1,Bool.not_true,Bool.false_eq_true,if_false,ih,Env.get]
   by_cases h:k=t
   ·subst h;rw [if_pos h1,if_pos h1]
   ·have:(k == t)=false:=by simp [h]
    rw [this,cond_false]
  ·simp only [h1,Bool.not_false,if_true,Env.get,ih]
   by_cases h:k=t
   ·subst h
    simp only [beq_self_eq_true,cond_true]
    rw [if_neg h1]
   ·have:(k == t)=false:=by simp [h]
    rw [this,cond_false,cond_false]
theorem Env.get_put (E:Env) (d:Option Nat) (v:V) (t:Nat):(E.put d v).get t=if d=some t then some v else E.get t:=by
 cases d with
 | none=>rfl
 | some d=>simp only [Env.put,Env.get_set,Option.some.injEq]
def Heap.upds (H:Heap):List (Nat×Option Blk)→Heap
 | []=>H
 | (a,k)::r=>(Heap.upds H r).set a k
def Heap.app (H:Heap) (e:Eff):Heap:=Heap.upds H e.upd++e.new.map some
theorem Heap.upds_length (H:Heap):∀u,(Heap.upds H u).length=H.length
 | []=>rfl
 | (a,k)::r=>by simp [Heap.upds,Heap.upds_length H r]
theorem Heap.upds_get (H:Heap):∀(u:List (Nat×Option Blk)),(∀p∈u,p.1 < H.length)→∀a,(Heap.upds H u).get a=match u.find? (fun p=>p.1 == a) with|some p=>p.2|none=>H.get a
 | [],_,a=>rfl
 | (b,k)::r,h,a=>by
  have ih:=Heap.upds_get H r (fun p hp=>h p (by simp [hp])) a
  have hb:b < H.length:=h (b,k) (by simp)
  unfold Heap.get at ih ⊢
  simp only [Heap.upds,List.getElem?_set,Heap.upds_length]
  rw [List.find?_cons]
  by_cases e:b=a
  ·subst e;simp [hb]
  ·have:(b == a)=false:=by simp [e]
   simp only [this,e,if_false]
   exact ih
theorem Heap.app_get (H:Heap) (e:Eff) (h:∀p∈e.upd,p.1 < H.length):(H.app e).get=e.heap H.length H.get:=by
 funext a
 have h1:=Heap.upds_get H e.upd h a
 unfold Heap.app Eff.heap
 unfold Heap.get at h1 ⊢
 by_cases h2:H.length≤a∧a < H.length+e.new.length
 ·rw [if_pos h2,List.getElem?_append_right (by rw [Heap.upds_length];exact h2.1),Heap.upds_length,List.getElem?_map]
  have:e.new[a - H.length]?=some (e.new[a - H.length]'(by omega)):=List.getElem?_eq_getElem (by omega)
  rw [this];rfl
 ·rw [if_neg h2]
  by_cases h3:a < H.length
  ·rw [List.getElem?_append_left (by rw [Heap.upds_length];exact h3)];exact h1
  ·have hlen:(Heap.upds H e.upd++e.new.map some).length≤a:=by
     rw [List.length_append,Heap.upds_length,List.length_map];omega
   rw [List.getElem?_eq_none hlen]
   rw [List.getElem?_eq_none (by rw [Heap.upds_length];omega)] at h1
   exact h1
theorem Heap.app_length (H:Heap) (e:Eff):(H.app e).length=H.length+e.new.length:=by simp [Heap.app,Heap.upds_length]
structure RSL (C:Ctx) (B:Base) (N:Nat) (E:Env) (H:Heap) (β:Nat→Option Nat) (a:Act) (w:World):Prop where
 rs:RS C B N E.get H.get β a w
 dom:∀i,H.length≤i→β i=none
 n0:B.n0≤H.length
def RSx (C:Ctx) (B:Base) (N:Nat) (E:Env) (H:Heap) (a:Act) (w:World):Prop:=∃β,RSL C B N E H β a w
section
variable {L:Lib} {C:Ctx} {B:Base} {N:Nat}
theorem RSL.sub {E E':Env} {H:Heap} {β:Nat→Option Nat} {a:Act} {w:World} (r:RSL C B N E H β a w) (h:∀t v,E'.get t=some v→E.get t=some v):RSL C B N E' H β a w:=
 ⟨⟨r.rs.size,r.rs.defers,fun t v hv=>r.rs.env t v (h t v hv),r.rs.heap,r.rs.frm,r.rs.own,r.rs.keep,r.rs.glob,r.rs.rnd⟩,r.dom,r.n0⟩
def callee (G:Nat→Option V) (E:Nat→Option V) (c:ACallee) (args:List AOpd):Option (Tgt×List V):=
 (evals (opval G E) args).bind fun vs=>
 match c with
 | .fn k=>some (.fn k,vs)
 | .dyn x=>match opval G E x with|some (.fn k fs cs)=>some (.fn k,fs++vs++cs)|some (.yld a)=>some (.yl a,vs)|_=>none
 | .meth x tab=>match opval G E x with|some (.iface t v)=>(lookN tab t).map fun k=>(.fn k,v::vs)|_=>none
def CallP (L:Lib) (E:Nat→Option V) (H:Heap) (c:ACallee) (args:List AOpd) (Post:V→Heap→Prop):Prop:=
 match callee L.G E c args with
 | some (k,vs)=>AFn L k vs H Post
 | none=>False
def stepP (L:Lib) (i:AI) (K:Env→Heap→Prop) (E:Env) (H:Heap):Prop:=
 match i.goes E.get with
 | some false=>K (E.put i.dst (.tup [])) H
 | some true=>
  match i.op with
  | .call c args=>CallP L E.get H c args (fun r H'=>K (E.put i.dst r) H')
  | .mnext x=>match (opval L.G E.get x).bind (nextE H.get) with|some l=>∀e∈l,(e.upd.all fun p=>Nat.blt p.1 H.length)=true∧K (E.put i.dst e.v) (H.app e)|none=>False
  | op=>match op.exec H.length H.get (opval L.G E.get) with|some e=>(e.upd.all fun p=>Nat.blt p.1 H.length)=true∧K (E.put i.dst e.v) (H.app e)|none=>False
 | none=>False
def opsP (L:Lib):List AI→(Env→Heap→Prop)→Env→Heap→Prop
 | [],K,E,H=>K E H
 | i::l,K,E,H=>stepP L i (opsP L l K) E H
theorem rargs_of {E:Nat→Option V} {h:Nat→Option Blk} {β:Nat→Option Nat} {a:Act} {w:World} (hC:Ok L C) (r:RS C B N E h β a w) {xs:List Operand} {ys:List AOpd} {vs:List V} (h1:C.T.opds xs=some ys) (h2:evals (opval L.G E) ys=some vs):RArgs C w (Imm B.A w β h) β vs (xs.map a.eval).toArray:=by
 obtain ⟨g1,g2⟩:=evals_rel (r.opd hC) h1 h2
 exact ⟨by simp [g1],fun i v x hv hx=>g2 i v x hv (by simpa using hx)⟩
theorem run_callFunc (hC:Ok L C) {k:Nat} {fid:FuncId} (hk:C.N.ν k=some fid) (vs:Array Value) (w:World):(callFunc fid vs).run C.T.P w=.ok (.enter fid vs) w:=by
 obtain ⟨f,h1,h2,h3⟩:=hC.body k fid hk
 have h4:¬(f.name="runtime.NumGoroutine"):=by simpa using h3
 cases hb:f.body with
 | none=>rw [hb] at h2;cases h2
 | some _=>simp [callFunc,h1,hb,h4]
theorem lookN_mem:∀{l:List (Nat×Nat)} {t k:Nat},lookN l t=some k→(t,k)∈l
 | [],t,k,h=>by simp [lookN] at h
 | p::r,t,k,h=>by
  simp only [lookN] at h
  cases hb:Nat.beq p.1 t with
  | true=>
   rw [hb,cond_true] at h
   simp at h
   have:=Nat.eq_of_beq_eq_true hb
   subst this;subst h;simp
  | false=>rw [hb,cond_false] at h;exact List.mem_cons_of_mem _ (lookN_mem h)
theorem run_method {T:Tr} {t:TypeId} {name:String} {k:Nat} (h:T.methOf t name=some k):∃f,T.fns f=some k∧∀(n:Nat) (v:Value) (w:World),(Go.method (n+1) t v name).run T.P w=.ok (f,v) w:=by
 unfold Tr.methOf at h
 simp only [Option.bind_eq_some_iff] at h
 obtain ⟨i,hi,m,hm,h⟩:=h
 split at h
 ·rename_i f e hp hf hu
  refine ⟨f,h,fun n v w=>?_⟩
  unfold Go.method
  rw [Sem.run_bind,run_info' hi w,Result.andThen_ok]
  simp only [hm,hp]
  simp [follow,hf,receiverAt,run_underlying hu,Place.get,Sem.run_bind]
 ·cases h
 ·rename_i f d hneg hp hf hu
  refine ⟨f,h,fun n v w=>?_⟩
  unfold Go.method
  rw [Sem.run_bind,run_info' hi w,Result.andThen_ok]
  simp only [hm,hp]
  cases d <;> first|(exact (hneg _ rfl).elim)|simp [follow,hf,receiverAt,run_underlying hu,Place.get,Sem.run_bind]
 ·cases h
def Enters (C:Ctx) (β:Nat→Option Nat) (t:Tgt) (xs:Array Value) (o:Oper) (a:Act) (w:World):Prop:=
 match t with
 | .fn k=>∃fid,C.N.ν k=some fid∧(execOp a.eval o).run C.T.P w=.ok (.enter fid xs) w
 | .yl q=>∃l,β q=some l∧(execOp a.eval o).run C.T.P w=(Instr.yield l xs).run C.T.P w
theorem call_resolves (hC:Ok L C) {E:Nat→Option V} {h:Nat→Option Blk} {β:Nat→Option Nat} {a:Act} {w:World} (r:RS C B N E h β a w) {o:Oper} {c:ACallee} {args:List AOpd} (hop:C.T.op o.op=some (.call c args)) (hfc:Tr.isFnCall o.op=true) {t:Tgt} {vs:List V} (hP:callee L.G E c args=some (t,vs)) :
    ∃(xs:Array Value),RArgs C w (Imm B.A w β h) β vs xs∧Enters C β t xs o a w:=by
 cases hq:o.op with
 | call cl=>
  rw [hq] at hop
  simp only [Tr.op] at hop
  have hexec:execOp a.eval o=(do let d ←resolve a.eval cl o.type;invoke d.target d.args):=by unfold execOp;rw [hq]
  unfold callee at hP
  simp only [Option.bind_eq_some_iff] at hP
  obtain ⟨vs',hvs,hP⟩:=hP
  split at hop
  ·rename_i b hcal
   rw [hq] at hfc
   simp [Tr.isFnCall,hcal] at hfc
  ·rename_i f hcal
   simp only [Option.bind_eq_some_iff,Option.map_eq_some_iff] at hop
   obtain ⟨k',hk,ys,hys,hop⟩:=hop
   injection hop with e1 e2
   subst e1;subst e2
   simp only [Option.some.injEq,Prod.mk.injEq] at hP
   obtain ⟨rfl,rfl⟩:=hP
   have hra:=rargs_of hC r hys hvs
   have e3:(cl.args.toList.map a.eval).toArray=cl.args.map a.eval:=by apply Array.ext';simp
   rw [e3] at hra
   refine ⟨_,hra,f,C.fns f k' hk,?_⟩
   have:(resolve a.eval cl o.type)=pure { target:=.fn (.func f) #[],args:=#[]++cl.args.map a.eval }:=by
    unfold resolve;rw [hcal];rfl
   rw [hexec,this,pure_bind]
   simp only [invoke,Array.append_empty,Array.empty_append]
   exact run_callFunc hC (C.fns f k' hk) _ w
  ·rename_i f hnf hcal
   simp only [Option.bind_eq_some_iff,Option.map_eq_some_iff] at hop
   obtain ⟨x,hx,ys,hys,hop⟩:=hop
   injection hop with e1 e2
   subst e1;subst e2
   simp only at hP
   split at hP
   ·rename_i k' fs cs hfv
    simp only [Option.some.injEq,Prod.mk.injEq] at hP
    obtain ⟨rfl,rfl⟩:=hP
    have hra:=rargs_of hC r hys hvs
    have e3:(cl.args.toList.map a.eval).toArray=cl.args.map a.eval:=by apply Array.ext';simp
    rw [e3] at hra
    have hfr:=r.opd hC f x _ hx hfv
    generalize hfe:a.eval f=q at hfr
    cases hfr with
    | fn _ _ fid hf _ _ ys zs h1 h2 hy hz=>
     refine ⟨ys++cl.args.map a.eval++zs,?_,fid,hf,?_⟩
     ·refine ⟨by simp [h1,h2,hra.1],fun i v y hv hx=>?_⟩
      have hlen:=hra.1
      rw [List.getElem?_append] at hv
      rw [Array.getElem?_append] at hx
      simp only [List.length_append,Array.size_append] at hv hx
      by_cases c1:i < fs.length+vs'.length
      ·rw [if_pos c1] at hv
       rw [if_pos (by omega)] at hx
       rw [List.getElem?_append] at hv
       rw [Array.getElem?_append] at hx
       by_cases c2:i < fs.length
       ·rw [if_pos c2] at hv
        rw [if_pos (by omega)] at hx
        exact hy i v y hv hx
       ·rw [if_neg c2] at hv
        rw [if_neg (by omega),h1] at hx
        exact hra.2 _ v y hv hx
      ·rw [if_neg c1] at hv
       rw [if_neg (by omega),h1,hlen] at hx
       exact hz _ v y hv hx
     ·have:(resolve a.eval cl o.type)=pure { target:=.fn (.func fid) zs,args:=ys++cl.args.map a.eval }:=by
        unfold resolve;rw [hcal];simp only [hfe];rfl
      rw [hexec,this,pure_bind]
      simp only [invoke]
      exact run_callFunc hC hf _ w
   ·rename_i q hfv
    simp only [Option.some.injEq,Prod.mk.injEq] at hP
    obtain ⟨rfl,rfl⟩:=hP
    have hra:=rargs_of hC r hys hvs
    have e3:(cl.args.toList.map a.eval).toArray=cl.args.map a.eval:=by apply Array.ext';simp
    rw [e3] at hra
    have hfr:=r.opd hC f x _ hx hfv
    generalize hfe:a.eval f=q' at hfr
    cases hfr with
    | yld _ _ l hl=>
     refine ⟨cl.args.map a.eval,hra,l,hl,?_⟩
     have:(resolve a.eval cl o.type)=pure { target:=.fn (.yield l) #[],args:=#[]++cl.args.map a.eval }:=by
      unfold resolve;rw [hcal];simp only [hfe];rfl
     rw [hexec,this,pure_bind]
     simp only [invoke,Array.empty_append]
   ·cases hP
  ·rename_i rcv name hcal
   simp only [Option.bind_eq_some_iff,Option.map_eq_some_iff] at hop
   obtain ⟨x,hx,ys,hys,hop⟩:=hop
   injection hop with e1 e2
   subst e1;subst e2
   simp only at hP
   split at hP
   ·rename_i ti v hfv
    simp only [Option.map_eq_some_iff] at hP
    obtain ⟨k',hk',hP⟩:=hP
    simp only [Prod.mk.injEq] at hP
    obtain ⟨rfl,rfl⟩:=hP
    have hmem:=lookN_mem hk'
    unfold Tr.meths at hmem
    rw [List.mem_filterMap] at hmem
    obtain ⟨t0,_,ht0⟩:=hmem
    simp only [Option.bind_eq_some_iff,Option.map_eq_some_iff,Prod.mk.injEq] at ht0
    obtain ⟨k1,hk1,f1,hf1,rfl,rfl⟩:=ht0
    obtain ⟨f,hff,hrunm⟩:=run_method hf1
    have hra:=rargs_of hC r hys hvs
    have e3:(cl.args.toList.map a.eval).toArray=cl.args.map a.eval:=by apply Array.ext';simp
    rw [e3] at hra
    have hfr:=r.opd hC rcv x _ hx hfv
    generalize hfe:a.eval rcv=q at hfr
    cases hfr with
    | iface _ _ T' hT _ y hv=>
     have hTT:T'=t0:=by
      have:=C.tys t0 _ hk1
      rw [hT] at this;cases this;rfl
     subst hTT
     refine ⟨#[y]++cl.args.map a.eval,⟨by simp [hra.1];omega,fun i u z hu hz=>?_⟩,f,C.fns f _ hff,?_⟩
     ·cases i with
      | zero=>
       have hz':y=z:=by rw [Array.getElem?_append_left (by simp)] at hz;simpa using hz
       have hu':v=u:=by simpa using hu
       rw [←hu',←hz'];exact hv
      | succ i=>
       refine hra.2 i u z (by simpa using hu) ?_
       rw [Array.getElem?_append] at hz
       rw [if_neg (by simp)] at hz
       simpa using hz
     ·have hres:(resolve a.eval cl o.type)=pure { target:=.fn (.method name) #[],args:=#[.iface T' y]++cl.args.map a.eval }:=by
        unfold resolve;rw [hcal,←hfe]
      rw [hexec,hres,pure_bind]
      have h0:(#[Value.iface T' y]++cl.args.map a.eval)[0]?=some (.iface T' y):=by rw [Array.getElem?_append_left (by simp)];rfl
      have h1:(#[Value.iface T' y]++cl.args.map a.eval).extract 1 (#[Value.iface T' y]++cl.args.map a.eval).size=cl.args.map a.eval:=by
       apply Array.ext';simp
       exact List.take_of_length_le (by simp)
      simp only [invoke,h0,h1,callMethod]
      rw [Sem.run_bind,run_program,Result.andThen_ok,Sem.run_bind]
      have hm:=hrunm (C.T.P.types.size+99) y w
      have hd:C.T.P.types.size+Made.depth=C.T.P.types.size+99+1:=rfl
      rw [hd,hm,Result.andThen_ok]
      exact run_callFunc hC (C.fns f _ hff) _ w
   ·cases hP
 | _=>rw [hq] at hfc;simp [Tr.isFnCall] at hfc
theorem enter_wp {β:Nat→Option Nat} {h:Nat→Option Blk} {a:Act} {w:World} {o:Oper} (hnd:∀c,o.op≠.defer c) {t:Tgt} {xs:Array Value} (h4:Enters C β t xs o a w) {R:Ending→World→Prop} (hR:RunAt C β t xs w R) {K:Act→World→Prop} {Q:Exit→Act→World→Prop}
    (hr:∀e w',R e w'→∃v,e=.returned v∧K (a.put o.dst v) w'):o.wpIn B.fw 0 C.T.P a w K Q:=by
 unfold Oper.wpIn
 refine ⟨fun _ _=>trivial,?_⟩
 rw [Oper.semAt_eq _ _ _ hnd]
 cases t with
 | fn k=>
  obtain ⟨fid,h1,h2⟩:=h4
  rw [h2]
  refine ⟨(fun h=>by cases h),?_⟩
  refine (callsIn_wide (n:=0)).2 ((hR fid h1).mono ?_)
  intro e w' he
  obtain ⟨v,rfl,hk⟩:=hr e w' he
  exact hk
 | yl q=>
  obtain ⟨l,h1,h2⟩:=h4
  obtain ⟨fn,tmps,assign,body,h3,h5⟩:=hR l h1
  rw [h2,h3]
  refine ⟨(fun h=>by cases h),?_⟩
  exact h5.mono (fun e w' he=>by
   obtain ⟨v,rfl,hk⟩:=hr e w' he
   exact hk)
theorem xop_call {T:Tr} {p:Op} {c:ACallee} {args:List AOpd} (hx:T.xop p=some (.call c args)):False:=by
 unfold Tr.xop at hx
 split at hx
 ·split at hx
  ·simp only [Option.bind_eq_some_iff,Option.map_eq_some_iff] at hx
   obtain ⟨_,_,_,_,_,_,he⟩:=hx
   cases he
  ·cases hx
 ·cases hx
theorem call_wp (hC:Ok L C) {E:Env} {H:Heap} {β:Nat→Option Nat} {a:Act} {w:World} (r:RSL C B N E H β a w) {nt:Nat} {ops:Array Oper} {draw:Bool} {i:Nat} {o:Oper} {ai:AI} (hai:C.T.oper nt ops draw i o=some ai) (hN:nt=N) {c:ACallee} {args:List AOpd} (hc:ai.op=.call c args)
    {K:Env→Heap→Prop} (hP:CallP L E.get H c args (fun r H'=>K (E.put ai.dst r) H')) {K':Act→World→Prop} {Q:Exit→Act→World→Prop} (hK:∀a' w' E' H',K E' H'→RSx C B N E' H' a' w'→K' a' w'):o.wpIn B.fw 0 C.T.P a w K' Q:=by
 obtain ⟨hop,hdst,hdn,_,_,_,hcall⟩:=Tr.oper_spec hai
 have hop:C.T.op o.op=some ai.op:=(hop (by rw [hc];simp)).resolve_right (fun hx=>by rw [hc] at hx;exact xop_call hx)
 rw [hc] at hop hcall
 unfold CallP at hP
 split at hP
 case h_2=>exact hP.elim
 rename_i k vs hcl
 obtain ⟨xs,h2,h4⟩:=call_resolves hC r.rs hop (hcall rfl) hcl
 refine enter_wp (h:=H.get) (β:=β) (fun c hc=>by rw [hc] at hop;simp [Tr.op] at hop) h4 (hP C hC B.A w β xs (fun b hb=>B.hA b ?_) r.dom r.rs.heap r.rs.glob h2) ?_
 ·rcases hb with hb|hb
  ·left;exact Nat.le_trans r.rs.frm.size hb
  ·exact r.rs.own b hb
 ·rintro e w' ⟨v,rr,H',β',rfl,hp,g1,g2,g3,g4,g5,g6,g7⟩
  refine ⟨v,rfl,?_⟩
  refine hK _ _ _ _ hp ⟨β',?_,g2,Nat.le_trans r.n0 g1⟩
  have hst:=r.rs.step (β':=β') (h':=H'.get) (w':=w') (dst:=o.dst) (v:=some rr) (x:=v) (fun q b hq=>by
   by_cases hlt:q < H.length
   ·rw [g3 q hlt];exact hq
   ·rw [r.dom q (by omega)] at hq;cases hq) (fun q hq=>g3 q (by have:=r.n0;omega)) g4 g6 g7 (fun v' hv'=>by cases hv';exact g5) (fun d hd=>by rw [←hN];exact hdn d hd)
  have he:(fun t=>if o.dst=some t then some rr else E.get t)=(E.put ai.dst rr).get:=by
   funext t;rw [Env.get_put,hdst]
  rw [he] at hst
  exact hst
theorem builtin_mnext {T:Tr} {b:Builtin} {ts:List TypeId} {xs:List Operand} {x:AOpd} (h:T.builtin b ts xs=some (.mnext x)):False:=by
 unfold Tr.builtin at h
 repeat' split at h
 all_goals first|cases h|(simp [Option.bind_eq_some_iff,Option.map_eq_some_iff] at h)
theorem op_mnext {T:Tr} {p:Op} {x:AOpd} (h:T.op p=some (.mnext x)):∃y,p=.next y false∧T.opd y=some x:=by
 unfold Tr.op at h
 repeat' split at h
 all_goals first|cases h|exact (builtin_mnext h).elim|(simp [Option.bind_eq_some_iff,Option.map_eq_some_iff] at h;done)|skip
 all_goals (simp only [Option.map_eq_some_iff] at h;obtain ⟨y,hy,he⟩:=h;cases he;exact ⟨_,rfl,hy⟩)
theorem xop_mnext {T:Tr} {p:Op} {x:AOpd} (hx:T.xop p=some (.mnext x)):False:=by
 unfold Tr.xop at hx
 split at hx
 ·split at hx
  ·simp only [Option.bind_eq_some_iff,Option.map_eq_some_iff] at hx
   obtain ⟨_,_,_,_,_,_,he⟩:=hx
   cases he
  ·cases hx
 ·cases hx
theorem nextE_new {get:Nat→Option Blk} {v:V} {l:List Eff} (h:nextE get v=some l):∀e∈l,e.new=[]:=by
 intro e he
 unfold nextE at h
 split at h
 case h_2=>cases h
 split at h
 ·simp only [Option.some.injEq] at h;subst h
  rw [List.mem_singleton] at he;rw [he]
 ·split at h
  case h_2=>cases h
  split at h
  case isFalse=>cases h
  split at h
  ·simp only [Option.some.injEq] at h;subst h
   rw [List.mem_singleton] at he;rw [he]
  ·simp only [Option.some.injEq] at h;subst h
   obtain ⟨c,_,rfl⟩:=List.mem_map.1 he;rfl
 ·cases h
theorem next_wp (hC:Ok L C) {E:Env} {H:Heap} {β:Nat→Option Nat} {a:Act} {w:World} (r:RSL C B N E H β a w) {ops:Array Oper} {draw:Bool} {i:Nat} {o:Oper} {ai:AI} (hai:C.T.oper N ops draw i o=some ai) {x:AOpd} (hc:ai.op=.mnext x) {v:V} (hv:opval L.G E.get x=some v) {l:List Eff} (hl:nextE H.get v=some l)
    {K:Env→Heap→Prop} (hP:∀e∈l,(e.upd.all fun p=>Nat.blt p.1 H.length)=true∧K (E.put ai.dst e.v) (H.app e)) {K':Act→World→Prop} {Q:Exit→Act→World→Prop} (hK:∀a' w' E' H',K E' H'→RSx C B N E' H' a' w'→K' a' w'):o.wpIn B.fw 0 C.T.P a w K' Q:=by
 obtain ⟨hop,hdst,hdn,_,_,_,_⟩:=Tr.oper_spec hai
 have hop:C.T.op o.op=some ai.op:=(hop (by rw [hc];simp)).resolve_right (fun hx=>by rw [hc] at hx;exact xop_mnext hx)
 rw [hc] at hop
 obtain ⟨y,hy1,hy2⟩:=op_mnext hop
 obtain ⟨e,he,x',w',hrun,β',g1,g2,g3,g4,g5⟩:=nextE_runs (n:=H.length) (ty:=o.type) r.rs.heap (r.rs.opd hC y x v hy2 hv) hl
 have hnew:=nextE_new hl e he
 obtain ⟨hall,hk⟩:=hP e he
 have hlt:∀p∈e.upd,p.1 < H.length:=fun p hp=>by simpa using List.all_eq_true.1 hall p hp
 have hβ:β'=β:=by
  funext q
  exact g1 q (by rw [hnew];simp)
 subst hβ
 have hfin:K' (a.put o.dst x') w':=by
  refine hK _ _ _ _ hk ⟨β',?_,fun q hq=>?_,?_⟩
  ·rw [Heap.app_get H e hlt]
   have hst:=r.rs.step (dst:=o.dst) (v:=some e.v) (x:=x') (fun _ _ h=>h) (fun _ _=>rfl) g2 g4 g5 (fun v' hv'=>by cases hv';exact g3) hdn
   have he:(fun t=>if o.dst=some t then some e.v else E.get t)=(E.put ai.dst e.v).get:=by
    funext t;rw [Env.get_put,hdst]
   rw [he] at hst
   exact hst
  ·rw [Heap.app_length,hnew] at hq;exact r.dom q hq
  ·rw [Heap.app_length,hnew];exact r.n0
 have hexec:execOp a.eval o=(do pure (.value (←Instr.next (a.eval y) false o.type))):=by unfold execOp;rw [hy1]
 unfold Oper.wpIn
 refine ⟨fun _ _=>trivial,?_⟩
 rw [Oper.semAt_eq _ _ _ (fun c hc=>by rw [hy1] at hc;cases hc),hexec]
 rcases hrun with hrun|⟨hrun,hx⟩
 ·rw [hrun];exact hfin
 ·rw [hrun];rw [hx] at hfin;exact hfin
theorem step_wp (hC:Ok L C) {E:Env} {H:Heap} {β:Nat→Option Nat} {a:Act} {w:World} (r:RSL C B N E H β a w) {ops:Array Oper} {draw:Bool} {i:Nat} {o:Oper} {ai:AI} (hai:C.T.oper N ops draw i o=some ai)
    {K:Env→Heap→Prop} (hP:stepP L ai K E H) {K':Act→World→Prop} {Q:Exit→Act→World→Prop} (hK:∀a' w' E' H',K E' H'→RSx C B N E' H' a' w'→K' a' w') :
    if Region.wanted o (yielded ops a.tmps) then o.wpIn B.fw 0 C.T.P a w K' Q else K' (a.put o.dst undef) w:=by
 obtain ⟨hop,hdst,hdn,_,_,_,hcall⟩:=Tr.oper_spec hai
 have hplain:∀{r':Rec} {E':Env} {H':Heap},ai.plain L.G H.length E.get H.get=some r'→K E' H'→E'.get=r'.env E.get→H'.get=r'.heap H.get→H.length+r'.k=H'.length→r'.slot=H.length→if Region.wanted o (yielded ops a.tmps) then o.wpIn B.fw 0 C.T.P a w K' Q else K' (a.put o.dst undef) w:=fun {r' E' H'} hr hk e1 e2 e3 e4=>by
  refine plain_ok hC hai hr B E.get H.get β a w (fun _ _=>rfl) (fun _ _=>rfl) (fun q hq _=>r.dom q (by omega)) (by rw [e4];exact r.n0) r.rs K' Q (fun a' w' β' hβ' rs'=>hK _ _ _ _ hk ⟨β',?_,fun q hq=>?_,?_⟩)
  ·rw [e1,e2];exact rs'
  ·rw [hβ' q (by omega)];exact r.dom q (by omega)
  ·have:=r.n0;omega
 unfold stepP at hP
 split at hP
 ·rename_i hg
  exact hplain (r':={ dst:=ai.dst,looks:=ai.looks,v:=some (.tup []),need:=[],eff:=[],slot:=H.length,k:=0 }) (by unfold AI.plain;rw [hg]) hP (by funext t;rw [Env.get_put];rfl) rfl rfl rfl
 ·rename_i hg
  split at hP
  ·rename_i c args hc
   have hw:=goes_wanted hai r.rs hg
   rw [hw,if_pos rfl]
   exact call_wp hC r hai rfl hc hP hK
  ·rename_i x hc
   have hw:=goes_wanted hai r.rs hg
   rw [hw,if_pos rfl]
   split at hP
   ·rename_i l hl
    obtain ⟨v,hv,hl⟩:=Option.bind_eq_some_iff.1 hl
    exact next_wp hC r hai hc hv hl hP hK
   ·exact hP.elim
  ·split at hP
   ·rename_i e he
    obtain ⟨hall,hk⟩:=hP
    have hlt:∀p∈e.upd,p.1 < H.length:=fun p hp=>by simpa using List.all_eq_true.1 hall p hp
    exact hplain (r':={ dst:=ai.dst,looks:=ai.looks,v:=some e.v,need:=e.need,eff:=e.all H.length,slot:=H.length,k:=e.new.length }) (by unfold AI.plain;rw [hg];simp only;rw [he];rfl) hk
     (by funext t;rw [Env.get_put];rfl) (by rw [Heap.app_get H e hlt];funext q;exact (Eff.all_heap e _ _ q).symm) (by rw [Heap.app_length]) rfl
   ·exact hP.elim
 ·exact hP.elim
theorem ops_wp (hC:Ok L C) {ops:Array Oper} {draw:Bool} {Q:Exit→Act→World→Prop} {K:Env→Heap→Prop} (hK:∀a' w' E' H',K E' H'→RSx C B N E' H' a' w'→Q .normal a' w'):∀(l:List Oper) (i:Nat) (ais:List AI),C.T.opers N ops draw i l=some ais→∀{E:Env} {H:Heap} {a:Act} {w:World},RSx C B N E H a w→opsP L ais K E H→wpListIn B.fw 0 C.T.P ops Q l a w
 | [],i,ais,h,E,H,a,w,r,hP=>by
  simp [Tr.opers] at h;subst h
  exact hK _ _ _ _ hP r
 | o::l,i,ais,h,E,H,a,w,⟨β,r⟩,hP=>by
  simp only [Tr.opers,Option.bind_eq_some_iff] at h
  obtain ⟨ai,hai,ais',hais,h⟩:=h
  simp only [Option.some.injEq] at h
  subst h
  have:=step_wp hC r hai (K':=wpListIn B.fw 0 C.T.P ops Q l) (Q:=Q) hP (fun a' w' E' H' hk hr=>ops_wp hC hK l (i+1) ais' hais hr hk)
  unfold wpListIn
  split
  ·rename_i hw;rw [if_pos hw] at this;exact this
  ·rename_i hw;rw [if_neg hw] at this;exact ⟨fun _ _=>trivial,this⟩
end
end Go.Proofs.YtigdhgbkgfagiaaGreat
namespace Go.Proofs.YtigdhgbkgfagiaaGreat
section
variable {α β:Type} (wr:Rec→α→Bool) (vl:Rec→α→β)
def upd1 (r:Rec) (f:α→β) (a:α):β:=if wr r a then vl r a else f a
def sel (X:Nat→Bool):Nat→List Rec→(α→β)→α→β
 | _,[],f=>f
 | i,r::l,f=>sel X (i+1) l (if X i then upd1 wr vl r f else f)
theorem sel_agree {X Y:Nat→Bool} {a:α}:∀(l:List Rec) (i:Nat) (f g:α→β),f a=g a→(∀(k:Nat) (r:Rec),l[k]?=some r→wr r a=true→X (i+k)=Y (i+k))→sel wr vl X i l f a=sel wr vl Y i l g a
 | [],i,f,g,h,_=>h
 | r::l,i,f,g,h,hw=>by
  simp only [sel]
  refine sel_agree l (i+1) _ _ ?_ (fun k r' hk hr=>by have:=hw (k+1) r' hk hr;rwa [show i+(k+1)=i+1+k by omega] at this)
  by_cases hr:wr r a=true
  ·have:=hw 0 r rfl hr
   rw [Nat.add_zero] at this
   rw [this]
   cases Y i with
   | true=>simp [upd1,hr]
   | false=>simpa using h
  ·have e:∀(f:α→β),upd1 wr vl r f a=f a:=fun f=>by unfold upd1;rw [if_neg hr]
   cases X i <;> cases Y i <;> simp [e,h]
theorem sel_none {X:Nat→Bool} {a:α}:∀(l:List Rec) (i:Nat) (f:α→β),(∀(k:Nat) (r:Rec),l[k]?=some r→wr r a=true→X (i+k)=false)→sel wr vl X i l f a=f a
 | [],i,f,_=>rfl
 | r::l,i,f,hw=>by
  simp only [sel]
  rw [sel_none l (i+1) _ (fun k r' hk hr=>by have:=hw (k+1) r' hk hr;rwa [show i+(k+1)=i+1+k by omega] at this)]
  cases hX:X i with
  | false=>rfl
  | true=>
   by_cases hr:wr r a=true
   ·have:=hw 0 r rfl hr
    rw [Nat.add_zero,hX] at this;cases this
   ·simp [upd1,hr]
theorem sel_last {X:Nat→Bool} {a:α}:∀(l:List Rec) (i k0:Nat) (r0:Rec) (f:α→β),l[k0]?=some r0→X (i+k0)=true→wr r0 a=true→(∀(k:Nat) (r:Rec),k0 < k→l[k]?=some r→wr r a=true→X (i+k)=false)→sel wr vl X i l f a=vl r0 a
 | [],i,k0,r0,f,h,_,_,_=>by simp at h
 | r::l,i,0,r0,f,h,hX,hr,hw=>by
  simp only [List.getElem?_cons_zero,Option.some.injEq] at h
  subst h
  simp only [sel]
  rw [sel_none wr vl l (i+1) _ (fun k r' hk hr'=>by have:=hw (k+1) r' (by omega) hk hr';rwa [show i+(k+1)=i+1+k by omega] at this)]
  rw [Nat.add_zero] at hX
  simp [hX,upd1,hr]
 | r::l,i,k0+1,r0,f,h,hX,hr,hw=>by
  simp only [sel]
  exact sel_last l (i+1) k0 r0 _ (by simpa using h) (by rwa [show i+1+k0=i+(k0+1) by omega]) hr (fun k r' hk hk' hr'=>by have:=hw (k+1) r' (by omega) hk' hr';rwa [show i+(k+1)=i+1+k by omega] at this)
theorem sel_add {X:Nat→Bool} {k0:Nat} {r0:Rec} {l:List Rec} {f:α→β} (h0:l[k0]?=some r0) (hX:X k0=false) (hw:∀(a:α) (k:Nat) (r:Rec),wr r0 a=true→k0 < k→l[k]?=some r→wr r a=true→X k=false) :
    sel wr vl (fun i=>i == k0||X i) 0 l f=upd1 wr vl r0 (sel wr vl X 0 l f):=by
 funext a
 unfold upd1
 by_cases hr:wr r0 a=true
 ·rw [if_pos hr]
  refine sel_last wr vl l 0 k0 r0 f h0 (by simp) hr (fun k r hk hk' hr'=>?_)
  have h1:=hw a k r hr hk hk' hr'
  have h2:(0+k == k0)=false:=by simp;omega
  show (0+k == k0||X (0+k))=false
  rw [h2,Bool.false_or,Nat.zero_add];exact h1
 ·rw [if_neg hr]
  refine sel_agree wr vl l 0 f f rfl (fun k r hk hr'=>?_)
  by_cases e:k=k0
  ·subst e;rw [h0] at hk;cases hk;exact absurd hr' hr
  ·have h2:(0+k == k0)=false:=by simp [e]
   simp only [h2,Bool.false_or]
end
def Rec.wrE (r:Rec) (t:Nat):Bool:=decide (r.dst=some t)
def Rec.vlE (r:Rec) (_:Nat):Option V:=r.v
def Rec.wrH (r:Rec) (a:Nat):Bool:=(r.eff.find? (fun p=>p.1 == a)).isSome
def Rec.vlH (r:Rec) (a:Nat):Option Blk:=((r.eff.find? (fun p=>p.1 == a)).map (·.2)).getD none
theorem Rec.env_upd (r:Rec) (E:Nat→Option V):r.env E=upd1 Rec.wrE Rec.vlE r E:=by
 funext t;simp [Rec.env,upd1,Rec.wrE,Rec.vlE]
theorem Rec.heap_upd (r:Rec) (h:Nat→Option Blk):r.heap h=upd1 Rec.wrH Rec.vlH r h:=by
 funext a
 unfold Rec.heap upd1 Rec.wrH Rec.vlH
 split
 ·rename_i p hq;rw [hq];rfl
 ·rename_i hq;rw [hq];rfl
abbrev selE (X:Nat→Bool) (l:List Rec) (E:Nat→Option V):=sel Rec.wrE Rec.vlE X 0 l E
abbrev selH (X:Nat→Bool) (l:List Rec) (h:Nat→Option Blk):=sel Rec.wrH Rec.vlH X 0 l h
structure Apart (r s:Rec):Prop where
 e1:∀t,r.wrE t=true→t∉s.looks∧s.wrE t=false
 e2:∀t,s.wrE t=true→t∉r.looks
 h1:∀a,r.wrH a=true→a∉s.need∧s.wrH a=false
 h2:∀a,s.wrH a=true→a∉r.need
structure Soft (r s:Rec):Prop where
 e1:∀t,r.wrE t=true→t∉s.looks∧s.wrE t=false
 e2:∀t,s.wrE t=true→t∉r.looks
 h1:∀a,r.wrH a=false
theorem countP_one {p q:Nat→Bool} {i:Nat}:∀{l:List Nat},l.Nodup→i∈l→p i=true→q i=false→(∀j,j≠i→q j=p j)→l.countP p=l.countP q+1
 | [],_,h,_,_,_=>by cases h
 | a::l,hn,h,hp,hq,he=>by
  rw [List.nodup_cons] at hn
  by_cases ha:a=i
  ·subst ha
   have:l.countP p=l.countP q:=List.countP_congr (fun x hx=>by rw [he x (fun e=>hn.1 (by rw [←e];exact hx))])
   simp [hp,hq,this]
  ·have hi:i∈l:=by
     rcases List.mem_cons.1 h with h|h
     ·exact absurd h.symm ha
     ·exact h
   have:=countP_one hn.2 hi hp hq he
   simp only [List.countP_cons,he a ha,this]
   omega
section
variable {L:Lib} {C:Ctx} {B:Base} {N:Nat}
theorem drawn_any {ops:Array Oper} {recs:List Rec} {E0:Nat→Option V} {h0:Nat→Option Blk} {nfin:Nat} {Q:Exit→Act→World→Prop} {Anc:Nat→List Nat} (hlen:recs.length=ops.size)
    (hok:∀(j:Nat) (r:Rec) (o:Oper),recs[j]?=some r→ops[j]?=some o→RecOk C N ops o r (selE (fun i=>decide (i < j)) recs E0) (selH (fun i=>decide (i < j)) recs h0))
    (hdeps:∀(j:Nat) (o:Oper),ops[j]?=some o→∀d∈Tr.deps o,d < j)
    (hanc:∀(j:Nat) (o:Oper),ops[j]?=some o→∀d∈Anc j,d∈Tr.deps o∨∃d'∈Tr.deps o,d∈Anc d')
    (hind:∀(i j:Nat) (r s:Rec),i < j→recs[i]?=some r→recs[j]?=some s→i∈Anc j∨Apart r s∨(Soft r s∧(∀(k:Nat) (t:Rec),i < k→k < j→recs[k]?=some t→∀a∈r.need,t.wrH a=false)∧
     ∀o,ops[i]?=some o→RecOk C N ops o r (selE (fun x=>decide (x < i)) recs E0) (selH (fun x=>decide (x < i)||x == j) recs h0)))
    (hslot:∀(i j:Nat) (r s:Rec),i < j→recs[i]?=some r→recs[j]?=some s→r.slot+r.k≤s.slot) (hn0:∀(j:Nat) (r:Rec),recs[j]?=some r→B.n0≤r.slot∧r.slot+r.k≤nfin)
    (hQ:∀a w β,RS C B N (selE (fun _=>true) recs E0) (selH (fun _=>true) recs h0) β a w→(∀i,nfin≤i→β i=none)→Q .normal a w) :
    ∀(fuel:Nat) (listed:Array Bool) (a:Act) (w:World) (β:Nat→Option Nat),listed.size=ops.size→(List.range ops.size).countP (fun i=>!listed.getD i false)=fuel→
     (∀(j:Nat) (o:Oper),ops[j]?=some o→listed.getD j false=true→∀d∈Tr.deps o,listed.getD d false=true)→
     RS C B N (selE (fun i=>listed.getD i false) recs E0) (selH (fun i=>listed.getD i false) recs h0) β a w→(∀(j:Nat) (r:Rec),recs[j]?=some r→listed.getD j false=false→∀i,r.slot≤i→i < r.slot+r.k→β i=none)→(∀i,nfin≤i→β i=none)→
     wpAnyIn B.fw 0 C.T.P .any ops Q fuel listed a w:=by
 have hin:∀(listed:Array Bool),(∀(j:Nat) (o:Oper),ops[j]?=some o→listed.getD j false=true→∀d∈Tr.deps o,listed.getD d false=true)→
     ∀(j:Nat) (o:Oper),ops[j]?=some o→(∀d∈Tr.deps o,listed.getD d false=true)→∀d∈Anc j,listed.getD d false=true:=by
  intro listed hcl j
  induction j using Nat.strongRecOn with
  | _ j ih=>
   intro o ho hd d hda
   rcases hanc j o ho d hda with h1|⟨d',h1,h2⟩
   ·exact hd d h1
   ·have hlt:=hdeps j o ho d' h1
    have hd'l:d' < ops.size:=Nat.lt_trans hlt (Array.getElem?_eq_some_iff.1 ho).1
    have ho':ops[d']?=some ops[d']:=Array.getElem?_eq_getElem hd'l
    exact ih d' hlt _ ho' (hcl d' _ ho' (hd d' h1)) d h2
 have hdone:∀(listed:Array Bool) (a:Act) (w:World) (β:Nat→Option Nat),(∀j,j < ops.size→listed.getD j false=true)→RS C B N (selE (fun i=>listed.getD i false) recs E0) (selH (fun i=>listed.getD i false) recs h0) β a w→(∀i,nfin≤i→β i=none)→Q .normal a w:=by
  intro listed a w β hall rs hdom
  refine hQ a w β ?_ hdom
  have e1:selE (fun i=>listed.getD i false) recs E0=selE (fun _=>true) recs E0:=by
   funext t
   refine sel_agree _ _ recs 0 _ _ rfl (fun k r hk _=>?_)
   rw [Nat.zero_add];exact hall k (by rw [←hlen];exact (List.getElem?_eq_some_iff.1 hk).1)
  have e2:selH (fun i=>listed.getD i false) recs h0=selH (fun _=>true) recs h0:=by
   funext t
   refine sel_agree _ _ recs 0 _ _ rfl (fun k r hk _=>?_)
   rw [Nat.zero_add];exact hall k (by rw [←hlen];exact (List.getElem?_eq_some_iff.1 hk).1)
  rw [←e1,←e2];exact rs
 have hready:∀(listed:Array Bool),listed.size=ops.size→Region.ready .any ops listed=[]→∀j,j < ops.size→listed.getD j false=true:=by
  intro listed hsz hr j
  induction j using Nat.strongRecOn with
  | _ j ih=>
   intro hj
   cases hq:listed.getD j false with
   | true=>rfl
   | false=>
    have ho:ops[j]?=some ops[j]:=Array.getElem?_eq_getElem hj
    have:j∈Region.ready .any ops listed:=mem_ready.2 ⟨by
     have:j < listed.size:=by omega
     simp only [Array.getD_eq_getD_getElem?,Array.getElem?_eq_getElem this,Option.getD_some] at hq ⊢;exact hq,_,ho,fun e he hb=>by
     have hd:e.on∈Tr.deps ops[j]:=List.mem_map.2 ⟨e,List.mem_filter.2 ⟨by simpa using he,hb⟩,rfl⟩
     have:=hdeps j _ ho _ hd
     exact ih e.on this (by omega)⟩
    rw [hr] at this;cases this
 intro fuel
 induction fuel with
 | zero=>
  intro listed a w β hsz hcnt hcl rs hs hdom
  have hall:∀j,j < ops.size→listed.getD j false=true:=fun j hj=>by
   rw [List.countP_eq_zero] at hcnt
   have:=hcnt j (List.mem_range.2 hj)
   simpa using this
  refine ⟨?_,hdone listed a w β hall rs hdom⟩
  rw [List.eq_nil_iff_forall_not_mem]
  intro j hj
  obtain ⟨h1,o,ho,_⟩:=mem_ready.1 hj
  have hlt:=(Array.getElem?_eq_some_iff.1 ho).1
  have h2:=hall j hlt
  have:j < listed.size:=by omega
  simp only [Array.getD_eq_getD_getElem?,Array.getElem?_eq_getElem this,Option.getD_some] at h1 h2
  rw [h1] at h2;cases h2
 | succ fuel ih=>
  intro listed a w β hsz hcnt hcl rs hs hdom
  refine ⟨fun hr=>hdone listed a w β (hready listed hsz hr) rs hdom,fun j hj=>?_⟩
  obtain ⟨h1,o,ho,hall⟩:=mem_ready.1 hj
  have hlt:=(Array.getElem?_eq_some_iff.1 ho).1
  have hjf:listed.getD j false=false:=by
   have:j < listed.size:=by omega
   simp only [Array.getD_eq_getD_getElem?,Array.getElem?_eq_getElem this,Option.getD_some] at h1 ⊢;exact h1
  have hdl:∀d∈Tr.deps o,listed.getD d false=true:=fun d hd=>by
   obtain ⟨e,he,rfl⟩:=List.mem_map.1 hd
   rw [List.mem_filter] at he
   exact hall e (by simpa using he.1) he.2
  have hanc':=hin listed hcl j o ho hdl
  obtain ⟨r,hr⟩:∃r,recs[j]?=some r:=⟨_,List.getElem?_eq_getElem (by omega)⟩
  have hearly:∀(k:Nat) (s:Rec),k < j→recs[k]?=some s→listed.getD k false=true∨Apart s r∨Soft s r:=fun k s hk hks=>by
   rcases hind k j s r hk hks hr with h2|h2|h2
   ·exact .inl (hanc' k h2)
   ·exact .inr (.inl h2)
   ·exact .inr (.inr h2.1)
  have hlate:∀(k:Nat) (s:Rec),j < k→recs[k]?=some s→listed.getD k false=false∨Apart r s∨(Soft r s∧(∀(q:Nat) (t:Rec),j < q→q < k→recs[q]?=some t→∀a∈r.need,t.wrH a=false)∧
      ∀o,ops[j]?=some o→RecOk C N ops o r (selE (fun x=>decide (x < j)) recs E0) (selH (fun x=>decide (x < j)||x == k) recs h0)):=fun k s hk hks=>by
   rcases hind j k r s hk hr hks with h2|h2|h2
   ·left
    cases hq:listed.getD k false with
    | false=>rfl
    | true=>
     have hkl:k < ops.size:=by rw [←hlen];exact (List.getElem?_eq_some_iff.1 hks).1
     have hok':ops[k]?=some ops[k]:=Array.getElem?_eq_getElem hkl
     have:=hin listed hcl k _ hok' (hcl k _ hok' hq) j h2
     rw [hjf] at this;cases this
   ·exact .inr (.inl h2)
   ·exact .inr (.inr h2)
  have hEl:∀t∈r.looks,selE (fun i=>listed.getD i false) recs E0 t=selE (fun i=>decide (i < j)) recs E0 t:=fun t ht=>by
   refine sel_agree _ _ recs 0 _ _ rfl (fun k s hks hw=>?_)
   rw [Nat.zero_add]
   by_cases c1:k < j
   ·rw [decide_eq_true c1]
    rcases hearly k s c1 hks with h2|h2|h2
    ·exact h2
    ·exact absurd ht (h2.e1 t hw).1
    ·exact absurd ht (h2.e1 t hw).1
   ·rw [decide_eq_false c1]
    by_cases c2:k=j
    ·rw [c2];exact hjf
    ·rcases hlate k s (by omega) hks with h2|h2|h2
     ·exact h2
     ·exact absurd ht (h2.e2 t hw)
     ·exact absurd ht (h2.1.e2 t hw)
  have hHl:∃hb,(∀q∈r.need,selH (fun i=>listed.getD i false) recs h0 q=hb q)∧RecOk C N ops o r (selE (fun i=>decide (i < j)) recs E0) hb:=by
   by_cases hs:∃(k:Nat) (s:Rec),j < k∧recs[k]?=some s∧listed.getD k false=true∧∃q∈r.need,s.wrH q=true
   ·obtain ⟨k,s,hjk,hks,hkl,q0,hq0,hw0⟩:=hs
    have hsoft:Soft r s∧(∀(q:Nat) (t:Rec),j < q→q < k→recs[q]?=some t→∀a∈r.need,t.wrH a=false)∧
        ∀o,ops[j]?=some o→RecOk C N ops o r (selE (fun x=>decide (x < j)) recs E0) (selH (fun x=>decide (x < j)||x == k) recs h0):=by
     rcases hlate k s hjk hks with h2|h2|h2
     ·rw [h2] at hkl;cases hkl
     ·exact absurd hq0 (h2.h2 q0 hw0)
     ·exact h2
    refine ⟨_,fun t ht=>?_,hsoft.2.2 o ho⟩
    refine sel_agree _ _ recs 0 _ _ rfl (fun k' s' hks' hw=>?_)
    rw [Nat.zero_add]
    by_cases c1:k' < j
    ·rw [decide_eq_true c1,Bool.true_or]
     rcases hearly k' s' c1 hks' with h2|h2|h2
     ·exact h2
     ·exact absurd ht (h2.h1 t hw).1
     ·rw [h2.h1 t] at hw;cases hw
    ·rw [decide_eq_false c1,Bool.false_or]
     by_cases c2:k'=k
     ·subst c2;rw [hkl];simp
     ·have e2:(k' == k)=false:=by simp [c2]
      rw [e2]
      by_cases c3:k'=j
      ·rw [c3];exact hjf
      ·rcases hlate k' s' (by omega) hks' with h2|h2|h2
       ·exact h2
       ·exact absurd ht (h2.h2 t hw)
       ·rcases Nat.lt_or_gt_of_ne c2 with c4|c4
        ·have:=hsoft.2.1 k' s' (by omega) c4 hks' t ht
         rw [this] at hw;cases hw
        ·have:=h2.2.1 k s hjk c4 hks q0 hq0
         rw [this] at hw0;cases hw0
   ·refine ⟨_,fun t ht=>?_,hok j r o hr ho⟩
    refine sel_agree _ _ recs 0 _ _ rfl (fun k s hks hw=>?_)
    rw [Nat.zero_add]
    by_cases c1:k < j
    ·rw [decide_eq_true c1]
     rcases hearly k s c1 hks with h2|h2|h2
     ·exact h2
     ·exact absurd ht (h2.h1 t hw).1
     ·rw [h2.h1 t] at hw;cases hw
    ·rw [decide_eq_false c1]
     by_cases c2:k=j
     ·rw [c2];exact hjf
     ·rcases hlate k s (by omega) hks with h2|h2|h2
      ·exact h2
      ·exact absurd ht (h2.h2 t hw)
      ·cases hq:listed.getD k false with
       | false=>rfl
       | true=>exact absurd ⟨k,s,by omega,hks,hq,t,ht,hw⟩ hs
  obtain ⟨hb,hHl,hokb⟩:=hHl
  have hgd:∀i,(listed.setIfInBounds j true).getD i false=(i == j||listed.getD i false):=fun i=>by
   by_cases c:i=j
   ·subst c
    have:i < listed.size:=by omega
    simp [this]
   ·rw [getD_set_ne false (fun e=>c e.symm)]
    have:(i == j)=false:=by simp [c]
    rw [this,Bool.false_or]
  have hE':selE (fun i=>(listed.setIfInBounds j true).getD i false) recs E0=r.env (selE (fun i=>listed.getD i false) recs E0):=by
   rw [Rec.env_upd,←sel_add Rec.wrE Rec.vlE hr hjf (fun t k s hw hk hks hw'=>by
    rcases hlate k s hk hks with h2|h2|h2
    ·exact h2
    ·rw [(h2.e1 t hw).2] at hw';cases hw'
    ·rw [(h2.1.e1 t hw).2] at hw';cases hw')]
   simp only [selE,hgd]
  have hH':selH (fun i=>(listed.setIfInBounds j true).getD i false) recs h0=r.heap (selH (fun i=>listed.getD i false) recs h0):=by
   rw [Rec.heap_upd,←sel_add Rec.wrH Rec.vlH hr hjf (fun t k s hw hk hks hw'=>by
    rcases hlate k s hk hks with h2|h2|h2
    ·exact h2
    ·rw [(h2.h1 t hw).2] at hw';cases hw'
    ·rw [h2.1.h1 t] at hw;cases hw)]
   simp only [selH,hgd]
  have hstep:=hokb B _ _ β a w hEl hHl (hs j r hr hjf) (hn0 j r hr).1 rs (fun a' w'=>wpAnyIn B.fw 0 C.T.P .any ops Q fuel (listed.setIfInBounds j true) a' w') Q (fun a' w' β' hβ' rs'=>by
   rw [←hE',←hH'] at rs'
   refine ih (listed.setIfInBounds j true) a' w' β' (by simpa using hsz) ?_ (fun k o' hk hkl d hd=>?_) rs' (fun k s hks hkl i hi1 hi2=>?_) (fun i hi=>?_)
   ·have:=countP_one (p:=fun i=>!listed.getD i false) (q:=fun i=>!(listed.setIfInBounds j true).getD i false) (i:=j) (l:=List.range ops.size) List.nodup_range (List.mem_range.2 hlt) (by simp only [hjf,Bool.not_false]) (by simp only [hgd];simp) (fun k hk=>by
      have:(k == j)=false:=by simp [hk]
      simp only [hgd,this,Bool.false_or])
    omega
   ·rw [hgd] at hkl ⊢
    by_cases c:k=j
    ·subst c
     rw [ho] at hk;cases hk
     rw [hdl d hd,Bool.or_true]
    ·have:(k == j)=false:=by simp [c]
     rw [this,Bool.false_or] at hkl
     rw [hcl k o' hk hkl d hd,Bool.or_true]
   ·rw [hgd] at hkl
    have c:k≠j:=fun e=>by subst e;simp at hkl
    have:(k == j)=false:=by simp [c]
    rw [this,Bool.false_or] at hkl
    rw [hβ' i ?_]
    ·exact hs k s hks hkl i hi1 hi2
    ·rcases Nat.lt_or_gt_of_ne c with c1|c1
     ·have:=hslot k j s r c1 hks hr;omega
     ·have:=hslot j k r s c1 hr hks;omega
   ·rw [hβ' i (by have:=(hn0 j r hr).2;omega)];exact hdom i hi)
  unfold wpOpIn
  simp only [ho]
  split
  ·rename_i hw;rw [if_pos hw] at hstep;exact hstep
  ·rename_i hw;rw [if_neg hw] at hstep;exact ⟨fun _ _=>trivial,hstep⟩
end
end Go.Proofs.YtigdhgbkgfagiaaGreat
namespace Go.Proofs.YtigdhgbkgfagiaaGreat
inductive Sg where
 | drop
 | to (a:Nat)
 | frz (size:Nat) (rows:List (List V))
mutual
def V.ren (σ:Nat→Sg):V→V
 | .agg cs=>.agg (V.rens σ cs)
 | .tup cs=>.tup (V.rens σ cs)
 | .fn f a b=>.fn f (V.rens σ a) (V.rens σ b)
 | .iface t v=>.iface t (V.ren σ v)
 | .ref a size off len cap=>
  match σ a with
  | .drop=>.bot
  | .to a'=>.ref a' size off len cap
  | .frz size' rows=>if (size'=size∧0 < size)∧off+len≤rows.length then .lst size ((rows.drop off).take len) cap else .bot
 | .ptr a size i o=>
  match σ a with
  | .drop=>.bot
  | .to a'=>.ptr a' size i o
  | .frz size' rows=>if size'=size then .iptr size rows i o else .bot
 | .int k n=>.int k n
 | .bool b=>.bool b
 | .str s=>.str s
 | .lst s r c=>.lst s r c
 | .iptr s r i o=>.iptr s r i o
 | .nilp=>.nilp
 | .nilf=>.nilf
 | .nili=>.nili
 | .bot=>.bot
 | .yld a=>match σ a with|.to a'=>.yld a'|_=>.bot
 | .mapp a=>match σ a with|.to a'=>.mapp a'|_=>.bot
 | .nilm=>.nilm
def V.rens (σ:Nat→Sg):List V→List V
 | []=>[]
 | v::r=>V.ren σ v::V.rens σ r
end
theorem V.rens_map (σ:Nat→Sg):∀l,V.rens σ l=l.map (V.ren σ)
 | []=>rfl
 | v::r=>by rw [V.rens,V.rens_map σ r];rfl
mutual
def V.closed:V→Bool
 | .agg cs=>V.closeds cs
 | .tup cs=>V.closeds cs
 | .fn _ a b=>V.closeds a&&V.closeds b
 | .iface _ v=>V.closed v
 | .ref ..=>false
 | .ptr ..=>false
 | .int ..=>true
 | .bool _=>true
 | .str _=>true
 | .lst ..=>true
 | .iptr ..=>true
 | .nilp=>true
 | .nilf=>true
 | .nili=>true
 | .bot=>true
 | .yld _=>false
 | .mapp _=>false
 | .nilm=>true
def V.closeds:List V→Bool
 | []=>true
 | v::r=>V.closed v&&V.closeds r
end
mutual
def V.noLst:V→Bool
 | .agg cs=>V.noLsts cs
 | .tup cs=>V.noLsts cs
 | .fn _ a b=>V.noLsts a&&V.noLsts b
 | .iface _ v=>V.noLst v
 | .ref ..=>true
 | .ptr ..=>true
 | .int ..=>true
 | .bool _=>true
 | .str _=>true
 | .lst ..=>false
 | .iptr ..=>false
 | .nilp=>true
 | .nilf=>true
 | .nili=>true
 | .bot=>true
 | .yld _=>true
 | .mapp _=>true
 | .nilm=>true
def V.noLsts:List V→Bool
 | []=>true
 | v::r=>V.noLst v&&V.noLsts r
end
theorem V.closeds_get:∀{l:List V} {i:Nat} {v:V},V.closeds l=true→l[i]?=some v→v.closed=true
 | [],i,v,_,h=>by simp at h
 | u::r,0,v,hc,h=>by simp [V.closeds] at hc h;rw [←h];exact hc.1
 | u::r,i+1,v,hc,h=>by simp [V.closeds] at hc h;exact V.closeds_get hc.2 h
theorem V.noLsts_get:∀{l:List V} {i:Nat} {v:V},V.noLsts l=true→l[i]?=some v→v.noLst=true
 | [],i,v,_,h=>by simp at h
 | u::r,0,v,hc,h=>by simp [V.noLsts] at hc h;rw [←h];exact hc.1
 | u::r,i+1,v,hc,h=>by simp [V.noLsts] at hc h;exact V.noLsts_get hc.2 h
section
variable {N:Nums} {w:World}
theorem Rel.of_closed {S:Nat→Prop} {β:Nat→Option Nat} {v:V} {x:Value} (h:Rel N w S β v x):v.closed=true→∀β',Rel N w S β' v x:=by
 induction h with
 | int β k n=>exact fun _ β'=>.int _ k n
 | bool β b=>exact fun _ β'=>.bool _ b
 | str β s=>exact fun _ β'=>.str _ s
 | agg β cs ys hl h1 h ih=>exact fun hc β'=>.agg _ cs ys hl h1 fun i c y h3 h4=>ih i c y h3 h4 (V.closeds_get (by simpa [V.closed] using hc) h3) β'
 | lst β size rows cap a c b off ys hc hlc ha hn hr hy h hz ih=>exact fun _ β'=>.lst _ size rows cap a c b off ys hc hlc ha hn hr hy h hz
 | iptr β size rows i o b off ys hSb hr hy h ih=>exact fun _ β'=>.iptr _ size rows i o b off ys hSb hr hy h
 | ref=>exact fun hc=>by simp [V.closed] at hc
 | ptr=>exact fun hc=>by simp [V.closed] at hc
 | nilp β=>exact fun _ _=>.nilp _
 | fn β f fid hf first caps ys zs h1 h2 hy hz ih1 ih2=>
  intro hc β'
  simp only [V.closed,Bool.and_eq_true] at hc
  exact .fn _ f fid hf first caps ys zs h1 h2 (fun i c y h3 h4=>ih1 i c y h3 h4 (V.closeds_get hc.1 h3) β') (fun i c y h3 h4=>ih2 i c y h3 h4 (V.closeds_get hc.2 h3) β')
 | nilf β=>exact fun _ _=>.nilf _
 | iface β t T ht v y h ih=>exact fun hc β'=>.iface _ t T ht v y (ih (by simpa [V.closed] using hc) β')
 | nili β=>exact fun _ _=>.nili _
 | tup β cs ys hl h ih=>exact fun hc β'=>.tup _ cs ys hl fun i c y h3 h4=>ih i c y h3 h4 (V.closeds_get (by simpa [V.closed] using hc) h3) β'
 | bot β y hy=>exact fun _ _=>.bot _ y hy
 | yld=>exact fun hc=>by simp [V.closed] at hc
 | mapp=>exact fun hc=>by simp [V.closed] at hc
 | nilm β=>exact fun _ _=>.nilm _
theorem Rel.of_noLst {S S':Nat→Prop} {β:Nat→Option Nat} {v:V} {x:Value} (h:Rel N w S β v x):v.noLst=true→Rel N w S' β v x:=by
 induction h with
 | int β k n=>exact fun _=>.int _ k n
 | bool β b=>exact fun _=>.bool _ b
 | str β s=>exact fun _=>.str _ s
 | agg β cs ys hl h1 h ih=>exact fun hc=>.agg _ cs ys hl h1 fun i c y h3 h4=>ih i c y h3 h4 (V.noLsts_get (by simpa [V.noLst] using hc) h3)
 | lst=>exact fun hc=>by simp [V.noLst] at hc
 | iptr=>exact fun hc=>by simp [V.noLst] at hc
 | ref β a size off len cap b x c hb hc hlc hx hm hnn=>exact fun _=>.ref _ a size off len cap b x c hb hc hlc hx hm hnn
 | ptr β a size i o b hb=>exact fun _=>.ptr _ a size i o b hb
 | nilp β=>exact fun _=>.nilp _
 | fn β f fid hf first caps ys zs h1 h2 hy hz ih1 ih2=>
  intro hc
  simp only [V.noLst,Bool.and_eq_true] at hc
  exact .fn _ f fid hf first caps ys zs h1 h2 (fun i c y h3 h4=>ih1 i c y h3 h4 (V.noLsts_get hc.1 h3)) (fun i c y h3 h4=>ih2 i c y h3 h4 (V.noLsts_get hc.2 h3))
 | nilf β=>exact fun _=>.nilf _
 | iface β t T ht v y h ih=>exact fun hc=>.iface _ t T ht v y (ih (by simpa [V.noLst] using hc))
 | nili β=>exact fun _=>.nili _
 | tup β cs ys hl h ih=>exact fun hc=>.tup _ cs ys hl fun i c y h3 h4=>ih i c y h3 h4 (V.noLsts_get (by simpa [V.noLst] using hc) h3)
 | bot β y hy=>exact fun _=>.bot _ y hy
 | yld β a b hb=>exact fun _=>.yld _ a b hb
 | mapp β a b hb=>exact fun _=>.mapp _ a b hb
 | nilm β=>exact fun _=>.nilm _
structure RenOk (N:Nums) (w:World) (S':Nat→Prop) (σ:Nat→Sg) (β β':Nat→Option Nat):Prop where
 to:∀a a' b,σ a=.to a'→β a=some b→β' a'=some b
 frz:∀a size rows b,σ a=.frz size rows→β a=some b→S' b∧(∀(i:Nat) (row:List V),rows[i]?=some row→row.length=size)∧
  ∀(i:Nat) (row:List V) (j:Nat) (x:V),rows[i]?=some row→row[j]?=some x→∃y,w.cell? ⟨b,i*size+j,none⟩=some y∧y.oneCell'=true∧Rel N w S' (fun _=>none) x y
theorem Rel.ren {S S':Nat→Prop} (hS:∀b,S b→S' b) {σ:Nat→Sg} {β:Nat→Option Nat} {v:V} {x:Value} (h:Rel N w S β v x):∀{β':Nat→Option Nat},RenOk N w S' σ β β'→Rel N w S' β' (v.ren σ) x:=by
 have hmono:∀{β:Nat→Option Nat} {v:V} {x:Value},Rel N w S β v x→Rel N w S' β v x:=fun h=>h.mono hS (fun _ _=>rfl) (fun _ _ h=>h) (fun _ _ h=>h)
 induction h with
 | int β k n=>exact fun _=>.int _ k n
 | bool β b=>exact fun _=>.bool _ b
 | str β s=>exact fun _=>.str _ s
 | agg β cs ys hl h1 h ih=>
  intro β' hr
  simp only [V.ren,V.rens_map]
  refine .agg _ _ ys (by simpa using hl) h1 fun i c y h3 h4=>?_
  rw [List.getElem?_map] at h3
  cases hq:cs[i]? with
  | none=>rw [hq] at h3;cases h3
  | some c0=>rw [hq] at h3;simp at h3;rw [←h3];exact ih i c0 y hq h4 hr
 | lst β size rows cap a c b off ys hc hlc ha hn hr hy h hz ih=>
  exact fun _=>.lst _ size rows cap a c b off ys hc hlc (fun h0=>⟨(ha h0).1,hS _ (ha h0).2⟩) hn hr hy (fun i row j x h1 h2=>hmono (h i row j x h1 h2)) hz
 | iptr β size rows i o b off ys hSb hr hy h ih=>exact fun _=>.iptr _ size rows i o b off ys (hS _ hSb) hr hy (fun i row j x h1 h2=>hmono (h i row j x h1 h2))
 | ref β a size off len cap b x c hb hc hlc hx hm hnn=>
  intro β' hr
  simp only [V.ren]
  cases hq:σ a with
  | drop=>exact .bot _ _ rfl
  | to a'=>exact .ref _ a' size off len cap b x c (hr.to a a' b hq hb) hc hlc hx hm hnn
  | frz size' rows=>
   simp only
   split
   ·rename_i hcond
    obtain ⟨⟨rfl,hpos⟩,hle⟩:=hcond
    obtain ⟨f1,f2,f3⟩:=hr.frz a size' rows b hq hb
    have hlen:((rows.drop off).take len).length=len:=by simp;omega
    have hget:∀(i:Nat) (row:List V),((rows.drop off).take len)[i]?=some row→rows[off+i]?=some row:=fun i row hi=>by
     rw [List.getElem?_take] at hi
     split at hi
     ·rw [List.getElem?_drop] at hi;exact hi
     ·cases hi
    have hcell:∀(i:Nat) (row:List V) (j:Nat) (x:V),((rows.drop off).take len)[i]?=some row→row[j]?=some x→∃y,w.cell? ⟨b,off*size'+i*size'+j,none⟩=some y∧y.oneCell'=true∧Rel N w S' (fun _=>none) x y:=fun i row j x hi hj=>by
     have:=f3 (off+i) row j x (hget i row hi) hj
     rwa [Nat.add_mul] at this
    have:=Rel.lst (N:=N) (w:=w) (S:=S') β' size' ((rows.drop off).take len) cap x c b (off*size') (fun i j=>(w.cell? ⟨b,off*size'+i*size'+j,none⟩).getD undef) hc (by rw [hlen];exact hlc) (fun h0=>⟨by
     rcases hx with hx|hx
     ·rw [hlen] at h0;omega
     ·exact hx,f1⟩) (fun hn=>by
     rcases hx with hx|hx
     ·exact hx
     ·rw [hn] at hx;cases hx) (fun i row hi=>f2 _ _ (hget i row hi))
     (fun i row j x hi hj=>by obtain ⟨y,q1,q2,_⟩:=hcell i row j x hi hj;rw [q1];exact ⟨rfl,q2⟩)
     (fun i row j x hi hj=>by obtain ⟨y,q1,_,q3⟩:=hcell i row j x hi hj;rw [q1];exact q3) ⟨fun h _=>by omega,fun _ _=>hnn⟩
    rw [hlen] at this
    exact this
   ·exact .bot _ _ rfl
 | ptr β a size i o b hb=>
  intro β' hr
  simp only [V.ren]
  cases hq:σ a with
  | drop=>exact .bot _ _ rfl
  | to a'=>exact .ptr _ a' size i o b (hr.to a a' b hq hb)
  | frz size' rows=>
   simp only
   split
   ·rename_i hcond
    subst hcond
    obtain ⟨f1,f2,f3⟩:=hr.frz a size' rows b hq hb
    have:=Rel.iptr (N:=N) (w:=w) (S:=S') β' size' rows i o b 0 (fun i j=>(w.cell? ⟨b,i*size'+j,none⟩).getD undef) f1 f2
     (fun i row j x hi hj=>by obtain ⟨y,q1,q2,_⟩:=f3 i row j x hi hj;rw [Nat.zero_add,q1];exact ⟨rfl,q2⟩)
     (fun i row j x hi hj=>by obtain ⟨y,q1,_,q3⟩:=f3 i row j x hi hj;rw [q1];exact q3)
    rw [Nat.zero_add] at this
    exact this
   ·exact .bot _ _ rfl
 | nilp β=>exact fun _=>.nilp _
 | fn β f fid hf first caps ys zs h1 h2 hy hz ih1 ih2=>
  intro β' hr
  simp only [V.ren,V.rens_map]
  refine .fn _ f fid hf _ _ ys zs (by simpa using h1) (by simpa using h2) (fun i c y h3 h4=>?_) (fun i c y h3 h4=>?_)
  ·rw [List.getElem?_map] at h3
   cases hq:first[i]? with
   | none=>rw [hq] at h3;cases h3
   | some c0=>rw [hq] at h3;simp at h3;rw [←h3];exact ih1 i c0 y hq h4 hr
  ·rw [List.getElem?_map] at h3
   cases hq:caps[i]? with
   | none=>rw [hq] at h3;cases h3
   | some c0=>rw [hq] at h3;simp at h3;rw [←h3];exact ih2 i c0 y hq h4 hr
 | nilf β=>exact fun _=>.nilf _
 | iface β t T ht v y h ih=>exact fun hr=>.iface _ t T ht _ y (ih hr)
 | nili β=>exact fun _=>.nili _
 | tup β cs ys hl h ih=>
  intro β' hr
  simp only [V.ren,V.rens_map]
  refine .tup _ _ ys (by simpa using hl) fun i c y h3 h4=>?_
  rw [List.getElem?_map] at h3
  cases hq:cs[i]? with
  | none=>rw [hq] at h3;cases h3
  | some c0=>rw [hq] at h3;simp at h3;rw [←h3];exact ih i c0 y hq h4 hr
 | bot β y hy=>exact fun _=>.bot _ y hy
 | yld β a b hb=>
  intro β' hr
  simp only [V.ren]
  cases hq:σ a with
  | to a'=>exact .yld _ a' b (hr.to a a' b hq hb)
  | drop=>exact .bot _ _ rfl
  | frz=>exact .bot _ _ rfl
 | mapp β a b hb=>
  intro β' hr
  simp only [V.ren]
  cases hq:σ a with
  | to a'=>exact .mapp _ a' b (hr.to a a' b hq hb)
  | drop=>exact .bot _ _ rfl
  | frz=>exact .bot _ _ rfl
 | nilm β=>exact fun _=>.nilm _
def Env.sh (E:Env) (σ:Nat→Sg):Env:=E.map fun p=>(p.1,p.2.ren σ)
theorem Env.get_sh (E:Env) (σ:Nat→Sg) (t:Nat):(E.sh σ).get t=(E.get t).map (V.ren σ):=by
 induction E with
 | nil=>rfl
 | cons p r ih=>
  obtain ⟨k,v⟩:=p
  simp only [Env.sh,List.map_cons,Env.get] at ih ⊢
  by_cases h:k=t
  ·subst h;simp
  ·have:(k == t)=false:=by simp [h]
   rw [this,cond_false,cond_false];exact ih
theorem Env.get_mem:∀{E:Env} {t:Nat} {v:V},E.get t=some v→(t,v)∈E
 | [],t,v,h=>by simp [Env.get] at h
 | (k,u)::r,t,v,h=>by
  simp only [Env.get] at h
  by_cases e:k=t
  ·subst e;simp at h;subst h;simp
  ·have:(k == t)=false:=by simp [e]
   rw [this,cond_false] at h
   exact List.mem_cons_of_mem _ (Env.get_mem h)
def Blk.ren (σ:Nat→Sg):Blk→Blk
 | .arr size rows=>.arr size (rows.map fun r=>r.map (V.ren σ))
 | .loop nt E ps ad body=>.loop nt (Env.sh E σ) ps ad body
 | .stop j=>.stop j
 | .map es bs clk=>.map (es.map fun p=>(p.1.ren σ,p.2.ren σ)) bs clk
 | .iter none since seen last=>.iter none since seen last
 | .iter (some a) since seen last=>match σ a with|.to a'=>.iter (some a') since seen last|_=>.junk
 | .siter s pos=>.siter s pos
 | .junk=>.junk
def Blk.closed:Blk→Bool
 | .arr _ rows=>rows.all fun r=>r.all V.closed
 | _=>false
def Blk.noLst:Blk→Bool
 | .arr _ rows=>rows.all fun r=>r.all V.noLst
 | .loop _ E _ _ _=>List.all E fun p=>p.2.noLst
 | .stop _=>true
 | .map es _ _=>es.all fun p=>p.1.noLst&&p.2.noLst
 | .iter ..=>true
 | .siter ..=>true
 | .junk=>true
theorem BlkR.ren {S S':Nat→Prop} (hS:∀b,S b→S' b) {σ:Nat→Sg} {β β':Nat→Option Nat} {k:Blk} {b:Nat} (h:BlkR N w S β k b) (hr:RenOk N w S' σ β β'):BlkR N w S' β' (k.ren σ) b:=by
 cases k with
 | arr size rows=>
  obtain ⟨cells,T,fz,h1,h2,h3,h4⟩:=h
  have hget:∀(i:Nat) (row:List V),(rows.map fun r=>r.map (V.ren σ))[i]?=some row→∃r0,rows[i]?=some r0∧row=r0.map (V.ren σ):=fun i row hi=>by
   rw [List.getElem?_map] at hi
   cases hq:rows[i]? with
   | none=>rw [hq] at hi;cases hi
   | some r0=>rw [hq] at hi;simp at hi;exact ⟨r0,rfl,hi.symm⟩
  refine ⟨cells,T,fz,h1,by simpa using h2,fun i row hi=>?_,fun i row j x hi hj=>?_⟩
  ·obtain ⟨r0,q1,rfl⟩:=hget i row hi
   simpa using h3 i r0 q1
  ·obtain ⟨r0,q1,rfl⟩:=hget i row hi
   rw [List.getElem?_map] at hj
   cases hq:r0[j]? with
   | none=>rw [hq] at hj;cases hj
   | some x0=>
    rw [hq] at hj;simp at hj
    obtain ⟨y,p1,p2,p3⟩:=h4 i r0 j x0 q1 hq
    exact ⟨y,p1,p2,by rw [←hj];exact p3.ren hS hr⟩
 | loop nt E ps ad body=>
  obtain ⟨r,h1,h2,h3,h4,h5,h6,h7,h8⟩:=h
  refine ⟨r,h1,h2,h3,h4,h5,h6,h7,fun t v hv=>?_⟩
  rw [Env.get_sh,Option.map_eq_some_iff] at hv
  obtain ⟨v0,hv0,rfl⟩:=hv
  obtain ⟨x,hx,hxr⟩:=h8 t v0 hv0
  exact ⟨x,hx,hxr.ren hS hr⟩
 | stop j=>exact h
 | map es bs clk=>
  obtain ⟨arr,h1,h2,hb,h3⟩:=h
  refine ⟨arr,h1,by simpa using h2,hb,fun i p e hp he=>?_⟩
  rw [List.getElem?_map,Option.map_eq_some_iff] at hp
  obtain ⟨p0,hp0,rfl⟩:=hp
  exact ⟨(h3 i p0 e hp0 he).1.ren hS hr,(h3 i p0 e hp0 he).2.ren hS hr⟩
 | iter m since seen last=>
  cases m with
  | none=>exact h
  | some a=>
   obtain ⟨q,h1,c,h2,h3⟩:=h
   simp only [Blk.ren]
   cases hq:σ a with
   | to a'=>exact ⟨q,h1,c,hr.to a a' c hq h2,h3⟩
   | drop=>exact ⟨_,h1,fun d e=>by cases e⟩
   | frz s r=>exact ⟨_,h1,fun d e=>by cases e⟩
 | siter s pos=>exact h
 | junk=>exact h
theorem BlkR.of_noLst {S S':Nat→Prop} {β:Nat→Option Nat} {k:Blk} {b:Nat} (h:BlkR N w S β k b) (hk:k.noLst=true):BlkR N w S' β k b:=by
 cases k with
 | arr size rows=>
  obtain ⟨cells,T,fz,h1,h2,h3,h4⟩:=h
  refine ⟨cells,T,fz,h1,h2,h3,fun i row j x hi hj=>?_⟩
  obtain ⟨y,p1,p2,p3⟩:=h4 i row j x hi hj
  simp only [Blk.noLst,List.all_eq_true] at hk
  exact ⟨y,p1,p2,p3.of_noLst (hk row (List.mem_of_getElem? hi) x (List.mem_of_getElem? hj))⟩
 | loop nt E ps ad body=>
  obtain ⟨r,h1,h2,h3,h4,h5,h6,h7,h8⟩:=h
  refine ⟨r,h1,h2,h3,h4,h5,h6,h7,fun t v hv=>?_⟩
  obtain ⟨x,hx,hxr⟩:=h8 t v hv
  simp only [Blk.noLst,List.all_eq_true] at hk
  exact ⟨x,hx,hxr.of_noLst (hk (t,v) (Env.get_mem hv))⟩
 | stop j=>exact h
 | iter m since seen last=>exact h
 | siter s pos=>exact h
 | junk=>exact h
 | map es bs clk=>
  obtain ⟨arr,h1,h2,hb,h3⟩:=h
  refine ⟨arr,h1,h2,hb,fun i p e hp he=>?_⟩
  simp only [Blk.noLst,List.all_eq_true,Bool.and_eq_true] at hk
  obtain ⟨k1,k2⟩:=hk p (List.mem_of_getElem? hp)
  exact ⟨(h3 i p e hp he).1.of_noLst k1,(h3 i p e hp he).2.of_noLst k2⟩
theorem BlkR.frozen {S S':Nat→Prop} (hS:∀b,S b→S' b) {β:Nat→Option Nat} {size:Nat} {rows:List (List V)} {b:Nat} (h:BlkR N w S β (.arr size rows) b) (hc:(Blk.arr size rows).closed=true) :
    (∀(i:Nat) (row:List V),rows[i]?=some row→row.length=size)∧∀(i:Nat) (row:List V) (j:Nat) (x:V),rows[i]?=some row→row[j]?=some x→∃y,w.cell? ⟨b,i*size+j,none⟩=some y∧y.oneCell'=true∧Rel N w S' (fun _=>none) x y:=by
 obtain ⟨cells,T,fz,h1,h2,h3,h4⟩:=id h
 refine ⟨h3,fun i row j x hi hj=>?_⟩
 obtain ⟨y,p1,p2,p3⟩:=h.cell hi hj
 simp only [Blk.closed,List.all_eq_true] at hc
 exact ⟨y,p1,p2,(p3.of_closed (hc row (List.mem_of_getElem? hi) x (List.mem_of_getElem? hj)) _).mono hS (fun _ _=>rfl) (fun _ _ h=>h) (fun _ _ h=>h)⟩
end
end Go.Proofs.YtigdhgbkgfagiaaGreat
namespace Go.Proofs.YtigdhgbkgfagiaaGreat
def posIn:List (Option Nat)→Nat→Nat→Option Nat
 | [],_,_=>none
 | some b::r,a,i=>bif b == a then some i else posIn r a (i+1)
 | none::r,a,i=>posIn r a (i+1)
def nodupO:List (Option Nat)→Bool
 | []=>true
 | some a::r=>(posIn r a 0).isNone&&nodupO r
 | none::r=>nodupO r
theorem posIn_spec:∀{l:List (Option Nat)} {a i k:Nat},posIn l a i=some k→i≤k∧l[k - i]?=some (some a)
 | [],a,i,k,h=>by simp [posIn] at h
 | some b::r,a,i,k,h=>by
  simp only [posIn] at h
  by_cases e:b=a
  ·subst e
   simp at h;subst h
   exact ⟨Nat.le_refl _,by simp⟩
  ·have:(b == a)=false:=by simp [e]
   rw [this,cond_false] at h
   obtain ⟨h1,h2⟩:=posIn_spec h
   exact ⟨by omega,by rw [show k - i=k - (i+1)+1 by omega];simpa using h2⟩
 | none::r,a,i,k,h=>by
  simp only [posIn] at h
  obtain ⟨h1,h2⟩:=posIn_spec h
  exact ⟨by omega,by rw [show k - i=k - (i+1)+1 by omega];simpa using h2⟩
theorem posIn_none:∀{l:List (Option Nat)} {a i:Nat},posIn l a i=none→∀(k:Nat),l[k]?≠some (some a)
 | [],a,i,h,k=>by simp
 | some b::r,a,i,h,k=>by
  simp only [posIn] at h
  by_cases e:b=a
  ·subst e;simp at h
  ·have:(b == a)=false:=by simp [e]
   rw [this,cond_false] at h
   cases k with
   | zero=>simp [e]
   | succ k=>simpa using posIn_none h k
 | none::r,a,i,h,k=>by
  simp only [posIn] at h
  cases k with
  | zero=>simp
  | succ k=>simpa using posIn_none h k
theorem posIn_of:∀{l:List (Option Nat)} {a k:Nat} (i:Nat),nodupO l=true→l[k]?=some (some a)→posIn l a i=some (i+k)
 | [],a,k,i,_,h=>by simp at h
 | some b::r,a,0,i,hn,h=>by simp at h;subst h;simp [posIn]
 | some b::r,a,k+1,i,hn,h=>by
  simp only [nodupO,Bool.and_eq_true] at hn
  simp at h
  have hne:b≠a:=fun e=>by
   subst e
   have h1:posIn r b 0=none:=by simpa using hn.1
   exact posIn_none h1 k h
  have:(b == a)=false:=by simp [hne]
  simp only [posIn,this,cond_false]
  rw [posIn_of (i+1) hn.2 h]
  congr 1;omega
 | none::r,a,0,i,hn,h=>by simp at h
 | none::r,a,k+1,i,hn,h=>by
  simp only [nodupO] at hn
  simp at h
  simp only [posIn]
  rw [posIn_of (i+1) hn h]
  congr 1;omega
def sgOf (H:Heap) (src:List (Option Nat)) (fz:List Nat) (a:Nat):Sg:=
 match posIn src a 0 with
 | some k=>.to k
 | none=>bif fz.contains a then (match H.get a with|some (.arr s rows)=>bif (Blk.arr s rows).closed then .frz s rows else .drop|_=>.drop) else .drop
def Heap.sh (H:Heap) (src:List (Option Nat)) (fz:List Nat):Heap:=src.map fun o=>o.bind fun a=>(H.get a).map (Blk.ren (sgOf H src fz))
theorem Heap.sh_get (H:Heap) (src:List (Option Nat)) (fz:List Nat) (a:Nat):(H.sh src fz).get a=(src[a]?.getD none).bind fun b=>(H.get b).map (Blk.ren (sgOf H src fz)):=by
 unfold Heap.sh
 rw [Heap.get,List.getElem?_map]
 cases src[a]? <;> rfl
theorem sgOf_to {H:Heap} {src:List (Option Nat)} {fz:List Nat} {a k:Nat} (h:sgOf H src fz a=.to k):src[k]?=some (some a):=by
 unfold sgOf at h
 split at h
 ·rename_i k' hk
  injection h with h
  subst h
  have:=(posIn_spec hk).2
  simpa using this
 ·exfalso
  cases hq:fz.contains a with
  | false=>rw [hq] at h;cases h
  | true=>
   rw [hq,cond_true] at h
   split at h
   ·rename_i s rows _
    cases hc:(Blk.arr s rows).closed <;> rw [hc] at h <;> cases h
   ·cases h
theorem sgOf_frz {H:Heap} {src:List (Option Nat)} {fz:List Nat} {a s:Nat} {rows:List (List V)} (h:sgOf H src fz a=.frz s rows):posIn src a 0=none∧fz.contains a=true∧H.get a=some (.arr s rows)∧(Blk.arr s rows).closed=true:=by
 unfold sgOf at h
 split at h
 ·cases h
 ·rename_i hn
  cases hq:fz.contains a with
  | false=>rw [hq] at h;cases h
  | true=>
   rw [hq,cond_true] at h
   split at h
   ·rename_i s' rows' hk
    cases hc:(Blk.arr s' rows').closed with
    | false=>rw [hc] at h;cases h
    | true=>
     rw [hc,cond_true] at h
     injection h with e1 e2
     subst e1;subst e2
     exact ⟨hn,rfl,hk,hc⟩
   ·cases h
def shβ (src:List (Option Nat)) (β:Nat→Option Nat) (a:Nat):Option Nat:=(src[a]?.getD none).bind β
section
variable {L:Lib} {C:Ctx} {B:Base} {N:Nat}
theorem shβ_to {src:List (Option Nat)} {β:Nat→Option Nat} {a k:Nat} (h:src[k]?=some (some a)):shβ src β k=β a:=by simp [shβ,h]
theorem sh_get_some {H:Heap} {src:List (Option Nat)} {fz:List Nat} {k:Nat} {b:Blk} (h:(H.sh src fz).get k=some b):∃(a:Nat) (b0:Blk),src[k]?=some (some a)∧H.get a=some b0∧b0.ren (sgOf H src fz)=b:=by
 rw [Heap.sh_get] at h
 cases hq:src[k]? with
 | none=>rw [hq] at h;cases h
 | some o=>
  cases o with
  | none=>rw [hq] at h;cases h
  | some a=>
   rw [hq] at h
   simp only [Option.getD_some,Option.bind_some,Option.map_eq_some_iff] at h
   obtain ⟨b0,h1,h2⟩:=h
   exact ⟨a,b0,rfl,h1,h2⟩
def Agr (H:Heap) (h:Nat→Option Blk) (src:List (Option Nat)) (fz:List Nat):Prop:=∀(a:Nat),(fz.contains a=true∨∃k:Nat,src[k]?=some (some a))→H.get a=h a
theorem Agr.self (H:Heap) (src:List (Option Nat)) (fz:List Nat):Agr H H.get src fz:=fun _ _=>rfl
theorem sh_live {H:Heap} {h:Nat→Option Blk} {src:List (Option Nat)} {fz:List Nat} (hag:Agr H h src fz) {β:Nat→Option Nat} {b:Nat} (hl:Live (shβ src β) (H.sh src fz).get b):∃(k a:Nat),src[k]?=some (some a)∧h a≠none∧β a=some b:=by
 obtain ⟨k,h1,h2⟩:=hl
 obtain ⟨bk,hb⟩:=Option.ne_none_iff_exists'.1 h1
 obtain ⟨a,b0,h3,h4,_⟩:=sh_get_some hb
 rw [shβ_to h3] at h2
 exact ⟨k,a,h3,by rw [←hag a (.inr ⟨k,h3⟩),h4];simp,h2⟩
theorem sh_renOk {A:Nat→Prop} {N:Nums} {w:World} {H:Heap} {h:Nat→Option Blk} {src:List (Option Nat)} {fz:List Nat} (hag:Agr H h src fz) {β:Nat→Option Nat} {S':Nat→Prop} (hh:HeapR A N w β h) (hS:∀b,Imm A w β h b→S' b)
    (hfz:∀a b s rows,fz.contains a=true→posIn src a 0=none→h a=some (.arr s rows)→β a=some b→S' b):RenOk N w S' (sgOf H src fz) β (shβ src β):=by
 refine ⟨fun a a' b h1 h2=>by rw [shβ_to (sgOf_to h1)];exact h2,fun a size rows b h1 h2=>?_⟩
 obtain ⟨h3,h4,h5,h6⟩:=sgOf_frz h1
 rw [hag a (.inl h4)] at h5
 obtain ⟨b',h7,h8,h9⟩:=hh.at' a _ h5
 rw [h2] at h7;cases h7
 obtain ⟨g1,g2⟩:=h9.frozen hS h6
 exact ⟨hfz a b _ _ h4 h3 h5 h2,g1,g2⟩
theorem sh_heap {A A':Nat→Prop} {N:Nums} {w:World} {H:Heap} {h:Nat→Option Blk} {src:List (Option Nat)} {fz:List Nat} (hag:Agr H h src fz) {β:Nat→Option Nat} (hn:nodupO src=true) (hh:HeapR A N w β h) (hS:∀b,Imm A w β h b→Imm A' w (shβ src β) (H.sh src fz).get b)
    (hr:RenOk N w (Imm A' w (shβ src β) (H.sh src fz).get) (sgOf H src fz) β (shβ src β)):HeapR A' N w (shβ src β) (H.sh src fz).get:=by
 refine ⟨fun k bk hk=>?_,fun k k' b h1 h2 h3 h4=>?_⟩
 ·obtain ⟨a,b0,h3,h4,rfl⟩:=sh_get_some hk
  rw [hag a (.inr ⟨k,h3⟩)] at h4
  obtain ⟨b,h5,h6,h7⟩:=hh.at' a b0 h4
  exact ⟨b,by rw [shβ_to h3];exact h5,h6,h7.ren hS hr⟩
 ·obtain ⟨bk,hb⟩:=Option.ne_none_iff_exists'.1 h1
  obtain ⟨bk',hb'⟩:=Option.ne_none_iff_exists'.1 h2
  obtain ⟨a,b0,g1,g2,_⟩:=sh_get_some hb
  obtain ⟨a',b0',g1',g2',_⟩:=sh_get_some hb'
  rw [shβ_to g1] at h3
  rw [shβ_to g1'] at h4
  rw [hag a (.inr ⟨k,g1⟩)] at g2
  rw [hag a' (.inr ⟨k',g1'⟩)] at g2'
  have:=hh.inj a a' b (by rw [g2];simp) (by rw [g2'];simp) h3 h4
  subst this
  have e1:=posIn_of 0 hn g1
  have e2:=posIn_of 0 hn g1'
  rw [e1] at e2
  simp at e2;exact e2
def okSh (n0:Nat) (src:List (Option Nat)):Bool:=nodupO src&&(List.range n0).all fun i=>match src[i]? with|some (some j)=>j == i|_=>false
theorem RSL.shift_rel {E:Env} {H:Heap} {β:Nat→Option Nat} {a:Act} {w:World} (r:RSL C B N E H β a w) (src:List (Option Nat)) (fz:List Nat) (hok:okSh B.n0 src=true) {v:V} {x:Value} (hv:Rel C.N w (Imm B.A w β H.get) β v x) :
    ∃β',RSL C B N (E.sh (sgOf H src fz)) (H.sh src fz) β' a w∧Rel C.N w (Imm B.A w β' (H.sh src fz).get) β' (v.ren (sgOf H src fz)) x:=by
 simp only [okSh,Bool.and_eq_true,List.all_eq_true] at hok
 obtain ⟨hn,hall⟩:=hok
 have hid:∀i,i < B.n0→src[i]?=some (some i):=fun i hi=>by
  have:=hall i (List.mem_range.2 hi)
  split at this
  ·rename_i j hj
   have:j=i:=by simpa using this
   rw [hj,this]
  ·cases this
 have hlive:∀b,Live (shβ src β) (H.sh src fz).get b→Live β H.get b:=fun b hb=>by
  obtain ⟨k,a,h1,h2,h3⟩:=sh_live (Agr.self H src fz) hb
  exact ⟨a,h2,h3⟩
 have himm:∀b,Imm B.A w β H.get b→Imm B.A w (shβ src β) (H.sh src fz).get b:=fun b hb=>⟨hb.lt,fun h=>hb.free (hlive b h),hb.al,hb.arr⟩
 have hren:RenOk C.N w (Imm B.A w (shβ src β) (H.sh src fz).get) (sgOf H src fz) β (shβ src β):=sh_renOk (Agr.self H src fz) r.rs.heap himm (fun a b s rows h1 h2 h3 h4=>by
  have h3':H.get a≠none:=by rw [h3];simp
  obtain ⟨b',g1,g2,g3⟩:=r.rs.heap.at' a _ h3
  rw [h4] at g1;cases g1
  refine ⟨g2,fun hl=>?_,B.hA b (r.rs.own b ⟨a,h3',h4⟩),?_⟩
  rotate_left
  ·obtain ⟨cells,T,fz',q1,_⟩:=g3
   exact ⟨cells,T,fz',q1⟩
  ·obtain ⟨k,a',g1,g2,g3⟩:=sh_live (Agr.self H src fz) hl
   have:=r.rs.heap.inj a a' b h3' g2 h4 g3
   subst this
   exact posIn_none h2 k g1)
 refine ⟨shβ src β,⟨⟨r.rs.size,r.rs.defers,fun t v hv=>?_,sh_heap (Agr.self H src fz) hn r.rs.heap himm hren,r.rs.frm,fun b hb=>r.rs.own b (hlive b hb),fun i hi=>?_,fun g k v h1 h2=>?_,fun l rec hrd=>⟨(r.rs.rnd l rec hrd).1,fun h=>(r.rs.rnd l rec hrd).2 (hlive l h)⟩⟩,fun i hi=>?_,?_⟩,hv.ren himm hren⟩
 ·rw [Env.get_sh,Option.map_eq_some_iff] at hv
  obtain ⟨v0,h1,rfl⟩:=hv
  obtain ⟨x,h2,h3⟩:=r.rs.env t v0 h1
  exact ⟨x,h2,h3.ren himm hren⟩
 ·rw [shβ_to (hid i hi)];exact r.rs.keep i hi
 ·exact (r.rs.glob g k v h1 h2).mono himm (fun _ _=>rfl) (fun _ _ h=>h) (fun _ _ h=>h)
 ·have:src[i]?=none:=List.getElem?_eq_none (by unfold Heap.sh at hi;simpa using hi)
  simp [shβ,this]
 ·unfold Heap.sh
  rw [List.length_map]
  rcases Nat.eq_zero_or_pos B.n0 with h0|h0
  ·omega
  ·have:=(List.getElem?_eq_some_iff.1 (hid (B.n0 - 1) (by omega))).1;omega
theorem RSL.shift {E:Env} {H:Heap} {β:Nat→Option Nat} {a:Act} {w:World} (r:RSL C B N E H β a w) (src:List (Option Nat)) (fz:List Nat) (hok:okSh B.n0 src=true):RSx C B N (E.sh (sgOf H src fz)) (H.sh src fz) a w:=by
 obtain ⟨β',h,_⟩:=r.shift_rel src fz hok (v:=.nilp) (.nilp _)
 exact ⟨β',h⟩
def outσ (n:Nat) (src:List Nat) (i:Nat):Sg:=match src[i]? with|some a=>.to a|none=>.to (n+(i - src.length))
def Heap.back (H:Heap) (src:List Nat) (h':Heap):Heap:=
 Heap.upds H (src.zipIdx.map fun p=>(p.1,(h'.get p.2).map (Blk.ren (outσ H.length src))))++(h'.drop src.length).map (Option.map (Blk.ren (outσ H.length src)))
def outOk (bor:List Nat) (r:V) (h':Heap):Bool:=bor.isEmpty||(r.noLst&&h'.all fun o=>match o with|some k=>k.noLst|none=>true)
theorem find_src (f:Nat→Option Blk):∀(src:List Nat) (st a:Nat),((src.zipIdx st).map fun p=>(p.1,f p.2)).find? (fun p=>p.1 == a)=(posIn (src.map some) a st).map fun i=>(a,f i)
 | [],st,a=>rfl
 | b::r,st,a=>by
  rw [List.zipIdx_cons,List.map_cons,List.find?_cons,List.map_cons]
  simp only [posIn]
  by_cases e:b=a
  ·subst e;simp
  ·have:(b == a)=false:=by simp [e]
   simp only [this,cond_false]
   exact find_src f r (st+1) a
theorem back_get (H:Heap) (src:List Nat) (h':Heap) (hlt:∀a∈src,a < H.length) (a:Nat):(H.back src h').get a=
    if a < H.length then (match posIn (src.map some) a 0 with|some i=>(h'.get i).map (Blk.ren (outσ H.length src))|none=>H.get a) else (h'.get (src.length+(a - H.length))).map (Blk.ren (outσ H.length src)):=by
 unfold Heap.back
 by_cases h1:a < H.length
 ·rw [if_pos h1]
  have:=Heap.upds_get H (src.zipIdx.map fun p=>(p.1,(h'.get p.2).map (Blk.ren (outσ H.length src)))) (fun p hp=>by
   obtain ⟨q,hq,rfl⟩:=List.mem_map.1 hp
   exact hlt _ (by
    obtain ⟨x,i⟩:=q
    exact (List.mem_zipIdx hq).2.2 ▸ List.getElem_mem _)) a
  unfold Heap.get at this ⊢
  rw [List.getElem?_append_left (by rw [Heap.upds_length];exact h1),this]
  rw [find_src (fun i=>(h'[i]?.getD none).map (Blk.ren (outσ H.length src))) src 0 a]
  cases posIn (src.map some) a 0 <;> rfl
 ·rw [if_neg h1]
  unfold Heap.get
  rw [List.getElem?_append_right (by rw [Heap.upds_length];omega),Heap.upds_length,List.getElem?_map,List.getElem?_drop]
  cases h'[src.length+(a - H.length)]? <;> rfl
theorem back_length (H:Heap) (src:List Nat) (h':Heap):(H.back src h').length=H.length+(h'.length - src.length):=by
 simp [Heap.back,Heap.upds_length]
end
end Go.Proofs.YtigdhgbkgfagiaaGreat
namespace Go.Proofs.YtigdhgbkgfagiaaGreat
theorem outσ_lt {n:Nat} {src:List Nat} {i a:Nat} (h:src[i]?=some a):outσ n src i=.to a:=by simp [outσ,h]
theorem outσ_ge {n:Nat} {src:List Nat} {i:Nat} (h:src.length≤i):outσ n src i=.to (n+(i - src.length)):=by
 unfold outσ;rw [List.getElem?_eq_none h]
theorem posIn_map {src:List Nat} {a i:Nat} (h:posIn (src.map some) a 0=some i):src[i]?=some a:=by
 have:=(posIn_spec h).2
 simp only [Nat.sub_zero,List.getElem?_map] at this
 cases hq:src[i]? with
 | none=>rw [hq] at this;cases this
 | some x=>rw [hq] at this;simp at this;rw [this]
def backF (h:Nat→Option Blk) (n:Nat) (src:List Nat) (h':Heap) (a:Nat):Option Blk:=
 match posIn (src.map some) a 0 with
 | some i=>(h'.get i).map (Blk.ren (outσ n src))
 | none=>if n≤a∧a < n+(h'.length - src.length) then (h'.get (src.length+(a - n))).map (Blk.ren (outσ n src)) else h a
def Tgt.sub (src:List (Option Nat)):Tgt→Option Tgt
 | .fn k=>some (.fn k)
 | .yl a=>(posIn src a 0).map .yl
theorem RunAt.of_sub {C:Ctx} {β:Nat→Option Nat} {src:List (Option Nat)} {t t':Tgt} (ht:t.sub src=some t') {xs:Array Value} {w:World} {R:Ending→World→Prop} (h:RunAt C (shβ src β) t' xs w R):RunAt C β t xs w R:=by
 cases t with
 | fn k=>simp [Tgt.sub] at ht;subst ht;exact h
 | yl a=>
  simp only [Tgt.sub,Option.map_eq_some_iff] at ht
  obtain ⟨i,hi,rfl⟩:=ht
  intro l hl
  refine h l ?_
  have:=(posIn_spec hi).2
  rw [Nat.sub_zero] at this
  rw [shβ_to this];exact hl
theorem frame_fn {L:Lib} {k k':Tgt} {vs:List V} {H:Heap} {P:V→Heap→Prop} (src bor:List Nat) (hn:nodupO (src.map some)=true) (ht:k.sub (src.map some)=some k') (hP:AFn L k' (vs.map (V.ren (sgOf H (src.map some) bor))) (H.sh (src.map some) bor) P)
    {C:Ctx} (hC:Ok L C) {A:Nat→Prop} {w:World} {β:Nat→Option Nat} {xs:Array Value} {h:Nat→Option Blk} {n:Nat} (hA:∀b,w.heap.size≤b∨Live β h b→A b) (hh:HeapR A C.N w β h) (hg:GlobR A C w β h) (ha:RArgs C w (Imm A w β h) β vs xs)
    (hag:Agr H h (src.map some) bor) (hlt:∀a∈src,a < n) (hout':∀r h',P r h'→outOk bor r h'=true∧∀i,n≤i→i < n+(h'.length - src.length)→β i=none) :
    RunAt C β k xs w fun e w'=>∃v r h' β',e=.returned v∧P r h'∧src.length≤h'.length∧(∀a,¬(n≤a∧a < n+(h'.length - src.length))→β' a=β a)∧(∀a b,β a=some b→β' a=some b)∧HeapR A C.N w' β' (backF h n src h')∧
     Rel C.N w' (Imm A w' β' (backF h n src h')) β' (r.ren (outσ n src)) v∧(∀b,Live β' (backF h n src h') b→w.heap.size≤b∨Live β h b)∧Frm (Live β h) w w':=by
 have hclen:(H.sh (src.map some) bor).length=src.length:=by simp [Heap.sh]
 have hlive:∀b,Live (shβ (src.map some) β) (H.sh (src.map some) bor).get b→Live β h b:=fun b hb=>by
  obtain ⟨k,a,h1,h2,h3⟩:=sh_live hag hb
  exact ⟨a,h2,h3⟩
 let Ac:Nat→Prop:=fun b=>Imm A w β h b∨(∃a,bor.contains a=true∧posIn (src.map some) a 0=none∧h a≠none∧β a=some b)∨w.heap.size≤b∨Live (shβ (src.map some) β) (H.sh (src.map some) bor).get b
 have himm:∀b,Imm A w β h b→Imm Ac w (shβ (src.map some) β) (H.sh (src.map some) bor).get b:=fun b hb=>⟨hb.lt,fun h=>hb.free (hlive b h),.inl hb,hb.arr⟩
 have hren:RenOk C.N w (Imm Ac w (shβ (src.map some) β) (H.sh (src.map some) bor).get) (sgOf H (src.map some) bor) β (shβ (src.map some) β):=sh_renOk hag hh himm (fun a b s rows h1 h2 h3 h4=>by
  have h3':h a≠none:=by rw [h3];simp
  obtain ⟨b',g1,g2,g3⟩:=hh.at' a _ h3
  rw [h4] at g1;cases g1
  refine ⟨g2,fun hl=>?_,.inr (.inl ⟨a,h1,h2,h3',h4⟩),?_⟩
  rotate_left
  ·obtain ⟨cells,T,fz',q1,_⟩:=g3
   exact ⟨cells,T,fz',q1⟩
  ·obtain ⟨k,a',g1,g2,g3⟩:=sh_live hag hl
   have:=hh.inj a a' b h3' g2 h4 g3
   subst this
   exact posIn_none h2 k g1)
 have hcell:∀i a,src[i]?=some a→(src.map some)[i]?=some (some a):=fun i a h=>by rw [List.getElem?_map,h];rfl
 refine RunAt.mono (RunAt.of_sub ht (hP C hC Ac w (shβ (src.map some) β) xs (fun b hb=>hb.elim (fun h=>.inr (.inr (.inl h))) (fun h=>.inr (.inr (.inr h)))) (fun a ha'=>?_) (sh_heap hag hn hh himm hren) (fun g k v h1 h2=>(hg g k v h1 h2).mono himm (fun _ _=>rfl) (fun _ _ h=>h) (fun _ _ h=>h)) ⟨by simpa using ha.1,fun i v x hv hx=>?_⟩)) ?_
 ·rw [hclen] at ha'
  have:(src.map some)[a]?=none:=List.getElem?_eq_none (by simpa using ha')
  simp [shβ,this]
 ·rw [List.getElem?_map] at hv
  cases hq:vs[i]? with
  | none=>rw [hq] at hv;cases hv
  | some v0=>rw [hq] at hv;simp at hv;rw [←hv];exact (ha.2 i v0 x hq hx).ren himm hren
 rintro e w' ⟨v,r0,h',βc',rfl,hPr,g1,g2,g3,g4,g5,g6,g7⟩
 obtain ⟨hout,hfresh⟩:=hout' r0 h' hPr
 rw [hclen] at g1 g3
 let β':Nat→Option Nat:=fun a=>if n≤a∧a < n+(h'.length - src.length) then βc' (src.length+(a - n)) else β a
 have hβold:∀a,¬(n≤a∧a < n+(h'.length - src.length))→β' a=β a:=fun a h=>if_neg h
 have hβnew:∀a,n≤a∧a < n+(h'.length - src.length)→β' a=βc' (src.length+(a - n)):=fun a h=>if_pos h
 have hβsub:∀a b,β a=some b→β' a=some b:=fun a b hab=>by
  by_cases c:n≤a∧a < n+(h'.length - src.length)
  ·rw [hfresh a c.1 c.2] at hab;cases hab
  ·rw [hβold a c];exact hab
 have hβsrc:∀i a,src[i]?=some a→β' a=βc' i:=fun i a hi=>by
  rw [hβold a (by have:=hlt a (List.mem_of_getElem? hi);omega),g3 i (List.getElem?_eq_some_iff.1 hi).1,shβ_to (hcell i a hi)]
 have hcase:∀a b,backF h n src h' a≠none→β' a=some b→
     (∃i,h'.get i≠none∧βc' i=some b∧(src[i]?=some a∨src.length≤i∧a=n+(i - src.length)))∨(posIn (src.map some) a 0=none∧h a≠none∧β a=some b):=fun a b h1 h2=>by
  unfold backF at h1
  cases hp:posIn (src.map some) a 0 with
  | some i=>
   rw [hp] at h1
   simp only at h1
   left
   exact ⟨i,fun e=>h1 (by rw [e];rfl),by rw [←hβsrc i a (posIn_map hp)];exact h2,.inl (posIn_map hp)⟩
  | none=>
   rw [hp] at h1
   simp only at h1
   by_cases c:n≤a∧a < n+(h'.length - src.length)
   ·rw [if_pos c] at h1
    left
    exact ⟨src.length+(a - n),fun e=>h1 (by rw [e];rfl),by rw [←hβnew a c];exact h2,.inr ⟨by omega,by omega⟩⟩
   ·rw [if_neg c] at h1
    right
    exact ⟨rfl,h1,by rw [←hβold a c];exact h2⟩
 have honly:∀a b,posIn (src.map some) a 0=none→h a≠none→β a=some b→b < w.heap.size∧¬Live (shβ (src.map some) β) (H.sh (src.map some) bor).get b:=fun a b h1 h2 h3=>by
  obtain ⟨bk,hb⟩:=Option.ne_none_iff_exists'.1 h2
  obtain ⟨b',q1,q2,_⟩:=hh.at' a bk hb
  rw [h3] at q1;cases q1
  refine ⟨q2,fun hl=>?_⟩
  obtain ⟨k,a',p1,p2,p3⟩:=sh_live hag hl
  have:=hh.inj a a' b h2 p2 h3 p3
  subst this
  exact posIn_none h1 k p1
 have hlive':∀b,Live β' (backF h n src h') b→w.heap.size≤b∨Live β h b:=fun b ⟨a,h1,h2⟩=>by
  rcases hcase a b h1 h2 with ⟨i,q1,q2,_⟩|⟨_,q3,q4⟩
  ·rcases g6 b ⟨i,q1,q2⟩ with q|q
   ·exact .inl q
   ·exact .inr (hlive b q)
  ·exact .inr ⟨a,q3,q4⟩
 have hfrm:Frm (Live β h) w w':=⟨g7.os,g7.tape,g7.output,g7.size,fun b hb hl=>g7.block b hb (fun h=>hl (hlive b h)),g7.room⟩
 have himm2:∀b,Imm A w β h b→Imm A w' β' (backF h n src h') b∧w'.heap[b]?=w.heap[b]?:=fun b hb=>imm_frame hfrm hlive' b hb
 have hSc:bor=[]→∀b,Imm Ac w' βc' h'.get b→Imm A w' β' (backF h n src h') b:=fun hbor b hb=>by
  refine ⟨hb.lt,fun ⟨a,h1,h2⟩=>?_,?_,hb.arr⟩
  ·rcases hcase a b h1 h2 with ⟨i,q1,q2,_⟩|⟨q2,q3,q4⟩
   ·exact hb.free ⟨i,q1,q2⟩
   ·obtain ⟨p1,p2⟩:=honly a b q2 q3 q4
    rcases hb.al with h|⟨a',h,_⟩|h|h
    ·exact h.free ⟨a,q3,q4⟩
    ·rw [hbor] at h;simp at h
    ·omega
    ·exact p2 h
  ·rcases hb.al with h|⟨a',h,_⟩|h|h
   ·exact h.al
   ·rw [hbor] at h;simp at h
   ·exact hA b (.inl h)
   ·exact hA b (.inr (hlive b h))
 have hro:∀S',RenOk C.N w' S' (outσ n src) βc' β':=fun S'=>by
  refine ⟨fun i a' b h1 h2=>?_,fun i size rows b h1=>?_⟩
  ·by_cases c:i < src.length
   ·have hi:src[i]?=some src[i]:=List.getElem?_eq_getElem c
    rw [outσ_lt hi] at h1
    cases h1
    rw [hβsrc i _ hi];exact h2
   ·rw [outσ_ge (by omega)] at h1
    cases h1
    have hi:i < h'.length:=by
     rcases Nat.lt_or_ge i h'.length with h3|h3
     ·exact h3
     ·rw [g2 i h3] at h2;cases h2
    rw [hβnew _ ⟨by omega,by omega⟩,show src.length+(n+(i - src.length) - n)=i by omega];exact h2
  ·by_cases c:i < src.length
   ·rw [outσ_lt (List.getElem?_eq_getElem c)] at h1;cases h1
   ·rw [outσ_ge (by omega)] at h1;cases h1
 have hbor:bor=[]∨(r0.noLst=true∧∀i k,h'.get i=some k→k.noLst=true):=by
  unfold outOk at hout
  rw [Bool.or_eq_true] at hout
  rcases hout with h1|h1
  ·left;simpa using h1
  ·right
   rw [Bool.and_eq_true,List.all_eq_true] at h1
   refine ⟨h1.1,fun i k hk=>?_⟩
   unfold Heap.get at hk
   cases hq:h'[i]? with
   | none=>rw [hq] at hk;cases hk
   | some o=>
    rw [hq] at hk
    simp at hk
    subst hk
    exact h1.2 _ (List.mem_of_getElem? hq)
 have hblk:∀i k b,h'.get i=some k→BlkR C.N w' (Imm Ac w' βc' h'.get) βc' k b→BlkR C.N w' (Imm A w' β' (backF h n src h')) β' (k.ren (outσ n src)) b:=fun i k b hk hb=>by
  rcases hbor with h1|⟨_,h1⟩
  ·exact hb.ren (hSc h1) (hro _)
  ·exact (hb.of_noLst (S':=Imm A w' β' (backF h n src h')) (h1 i k hk)).ren (fun _ h=>h) (hro _)
 refine ⟨v,r0,h',β',rfl,hPr,by omega,fun a ha'=>hβold a ha',hβsub,⟨fun a k hk=>?_,fun a1 a2 b h1 h2 h3 h4=>?_⟩,?_,hlive',hfrm⟩
 ·have hk0:=hk
  unfold backF at hk
  cases hp:posIn (src.map some) a 0 with
  | some i=>
   rw [hp] at hk
   simp only [Option.map_eq_some_iff] at hk
   obtain ⟨k0,hk0',rfl⟩:=hk
   obtain ⟨b,q1,q2,q3⟩:=g4.at' i k0 hk0'
   exact ⟨b,by rw [hβsrc i a (posIn_map hp)];exact q1,q2,hblk i k0 b hk0' q3⟩
  | none=>
   rw [hp] at hk
   simp only at hk
   by_cases c:n≤a∧a < n+(h'.length - src.length)
   ·rw [if_pos c] at hk
    simp only [Option.map_eq_some_iff] at hk
    obtain ⟨k0,hk0',rfl⟩:=hk
    obtain ⟨b,q1,q2,q3⟩:=g4.at' _ k0 hk0'
    exact ⟨b,by rw [hβnew a c];exact q1,q2,hblk _ k0 b hk0' q3⟩
   ·rw [if_neg c] at hk
    obtain ⟨b,q1,q2,q3⟩:=hh.at' a k hk
    obtain ⟨p1,p2⟩:=honly a b hp (by rw [hk];simp) q1
    exact ⟨b,by rw [hβold a c];exact q1,Nat.lt_of_lt_of_le q2 g7.size,q3.mono (g7.block b p1 p2) (fun b hb=>(himm2 b hb).1) (fun b hb=>(himm2 b hb).2) g7.room hβsub⟩
 ·rcases hcase a1 b h1 h3 with ⟨i,q1,q2,q3⟩|⟨q2,q3,q4⟩ <;> rcases hcase a2 b h2 h4 with ⟨j,p1,p2,p3⟩|⟨p2,p3,p4⟩
  ·have:=g4.inj i j b q1 p1 q2 p2
   subst this
   rcases q3 with q3|⟨q3,q5⟩ <;> rcases p3 with p3|⟨p3,p5⟩
   ·rw [q3] at p3;cases p3;rfl
   ·have:=(List.getElem?_eq_some_iff.1 q3).1;omega
   ·have:=(List.getElem?_eq_some_iff.1 p3).1;omega
   ·omega
  ·obtain ⟨o1,o2⟩:=honly a2 b p2 p3 p4
   rcases g6 b ⟨i,q1,q2⟩ with q|q
   ·omega
   ·exact absurd q o2
  ·obtain ⟨o1,o2⟩:=honly a1 b q2 q3 q4
   rcases g6 b ⟨j,p1,p2⟩ with q|q
   ·omega
   ·exact absurd q o2
  ·exact hh.inj a1 a2 b q3 p3 q4 p4
 ·rcases hbor with h1|⟨h1,_⟩
  ·exact g5.ren (hSc h1) (hro _)
  ·exact (g5.of_noLst (S':=Imm A w' β' (backF h n src h')) h1).ren (fun _ h=>h) (hro _)
theorem AFn.frame {L:Lib} {k k':Tgt} {vs:List V} {H:Heap} {Post:V→Heap→Prop} (src bor:List Nat) (ht:k.sub (src.map some)=some k') (hn:nodupO (src.map some)=true) (hlt:(src.all fun a=>Nat.blt a H.length)=true)
    (h:AFn L k' (vs.map (V.ren (sgOf H (src.map some) bor))) (H.sh (src.map some) bor) (fun r h'=>outOk bor r h'=true∧Post (r.ren (outσ H.length src)) (H.back src h'))):AFn L k vs H Post:=by
 intro C hC A w β xs hA hd hh hg ha
 have hlt':∀a∈src,a < H.length:=fun a h=>by simpa using List.all_eq_true.1 hlt a h
 refine (frame_fn (n:=H.length) src bor hn ht h hC hA hh hg ha (Agr.self H _ _) hlt' (fun r h' hp=>⟨hp.1,fun i hi _=>hd i hi⟩)).mono ?_
 rintro e w' ⟨v,r0,h',β',rfl,⟨_,hpost⟩,g1,g2,g3,g4,g5,g6,g7⟩
 have hb:backF H.get H.length src h'=(H.back src h').get:=by
  funext a
  rw [back_get H src h' hlt']
  unfold backF
  by_cases c:a < H.length
  ·rw [if_pos c]
   cases posIn (src.map some) a 0 with
   | some i=>rfl
   | none=>simp only;rw [if_neg (by omega)]
  ·rw [if_neg c]
   cases hp:posIn (src.map some) a 0 with
   | some i=>exact absurd (hlt' a (List.mem_of_getElem? (posIn_map hp))) c
   | none=>
    simp only
    by_cases c2:H.length≤a∧a < H.length+(h'.length - src.length)
    ·rw [if_pos c2]
    ·rw [if_neg c2]
     have e1:H.get a=none:=by unfold Heap.get;rw [List.getElem?_eq_none (by omega)];rfl
     have e2:h'.get (src.length+(a - H.length))=none:=by unfold Heap.get;rw [List.getElem?_eq_none (by omega)];rfl
     rw [e1,e2];rfl
 rw [hb] at g4 g5 g6
 refine ⟨v,_,_,β',rfl,hpost,by rw [back_length];omega,fun a ha'=>?_,fun a ha'=>g2 a (by omega),g4,g5,g6,g7⟩
 rw [back_length] at ha'
 rw [g2 a (by omega)];exact hd a (by omega)
end Go.Proofs.YtigdhgbkgfagiaaGreat
namespace Go.Proofs.YtigdhgbkgfagiaaGreat
def Rec.keys (r:Rec):List Nat:=r.eff.map (·.1)
def apartB (r s:Rec):Bool:=
 (match r.dst with|some d=>!s.looks.contains d&&(match s.dst with|some d'=>!(d == d')|none=>true)|none=>true) &&
 (match s.dst with|some d=>!r.looks.contains d|none=>true) &&
 (r.keys.all fun a=>!s.need.contains a&&!s.keys.contains a)&&(s.keys.all fun a=>!r.need.contains a)
theorem wrH_keys {r:Rec} {a:Nat} (h:r.wrH a=true):a∈r.keys:=by
 unfold Rec.wrH at h
 rw [Option.isSome_iff_exists] at h
 obtain ⟨p,hp⟩:=h
 have h1:=List.mem_of_find?_eq_some hp
 have h2:=List.find?_some hp
 simp at h2
 exact List.mem_map.2 ⟨p,h1,h2⟩
theorem apartB_spec {r s:Rec} (h:apartB r s=true):Apart r s:=by
 unfold apartB at h
 simp only [Bool.and_eq_true,List.all_eq_true] at h
 obtain ⟨⟨⟨h1,h2⟩,h3⟩,h4⟩:=h
 refine ⟨fun t ht=>?_,fun t ht=>?_,fun a ha=>?_,fun a ha=>?_⟩
 ·have hd:r.dst=some t:=by simpa [Rec.wrE] using ht
  rw [hd] at h1
  simp only [Bool.and_eq_true] at h1
  refine ⟨by simpa using h1.1,?_⟩
  unfold Rec.wrE
  rw [decide_eq_false_iff_not]
  intro hs
  rw [hs] at h1
  simp at h1
 ·have hd:s.dst=some t:=by simpa [Rec.wrE] using ht
  rw [hd] at h2
  simpa using h2
 ·obtain ⟨g1,g2⟩:=h3 a (wrH_keys ha)
  refine ⟨by simpa using g1,?_⟩
  cases hq:s.wrH a with
  | false=>rfl
  | true=>have:=wrH_keys hq;simp [this] at g2
 ·simpa using h4 a (wrH_keys ha)
def ancM (ms:List Nat):List Nat→Nat
 | []=>0
 | d::r=>ancM ms r ||| (ms.getD d 0 ||| 1 <<< d)
theorem ancM_spec {ms:List Nat} {d:Nat}:∀{l:List Nat},(ancM ms l).testBit d=true→∃x∈l,d=x∨(ms.getD x 0).testBit d=true
 | [],h=>by simp [ancM] at h
 | x::r,h=>by
  simp only [ancM,Nat.testBit_or,Bool.or_eq_true] at h
  rcases h with h|h|h
  ·obtain ⟨y,hy,h1⟩:=ancM_spec h;exact ⟨y,by simp [hy],h1⟩
  ·exact ⟨x,by simp,.inr h⟩
  ·refine ⟨x,by simp,.inl ?_⟩
   rw [Nat.one_shiftLeft,Nat.testBit_two_pow] at h
   simpa using (of_decide_eq_true h).symm
def indB (m:Nat) (r:Rec):Nat→List Rec→Bool
 | _,[]=>true
 | i,s::l=>(m.testBit i||apartB s r)&&indB m r (i+1) l
def effO (σ:Nat→Sg) (quiet:List Nat) (h':Heap):List Nat→Nat→List (Nat×Option Blk)
 | [],_=>[]
 | a::r,i=>if quiet.contains i then effO σ quiet h' r (i+1) else (a,(h'.get i).map (Blk.ren σ))::effO σ quiet h' r (i+1)
def effN (σ:Nat→Sg):List (Option Blk)→Nat→List (Nat×Option Blk)
 | [],_=>[]
 | b::r,n=>(n,b.map (Blk.ren σ))::effN σ r (n+1)
def effB (n:Nat) (src quiet:List Nat) (h':Heap):List (Nat×Option Blk):=effN (outσ n src) (h'.drop src.length) n++effO (outσ n src) quiet h' src 0
theorem effN_find (σ:Nat→Sg) (a:Nat):∀(l:List (Option Blk)) (n:Nat),(effN σ l n).find? (fun p=>p.1 == a)=if n≤a∧a < n+l.length then some (a,(l[a - n]?.getD none).map (Blk.ren σ)) else none
 | [],n=>by simp [effN]
 | b::l,n=>by
  simp only [effN,List.find?_cons]
  by_cases h:n=a
  ·subst h;simp
  ·have:(n == a)=false:=by simp [h]
   simp only [this,effN_find σ a l (n+1),List.length_cons]
   by_cases h2:n+1≤a∧a < n+1+l.length
   ·rw [if_pos h2,if_pos (by omega),show a - n=a - (n+1)+1 by omega];simp
   ·rw [if_neg h2,if_neg (by omega)]
theorem effO_none {σ:Nat→Sg} {quiet:List Nat} {h':Heap} {a:Nat}:∀{src:List Nat} {i:Nat},a∉src→(effO σ quiet h' src i).find? (fun p=>p.1 == a)=none
 | [],i,_=>rfl
 | x::r,i,h=>by
  simp only [List.mem_cons,not_or] at h
  have:(x == a)=false:=by simp;exact fun e=>h.1 e.symm
  simp only [effO]
  split
  ·exact effO_none h.2
  ·rw [List.find?_cons];simp only [this];exact effO_none h.2
theorem effO_find {σ:Nat→Sg} {quiet:List Nat} {h':Heap} {a k:Nat}:∀{src:List Nat} {i:Nat},nodupO (src.map some)=true→posIn (src.map some) a i=some k→
    (effO σ quiet h' src i).find? (fun p=>p.1 == a)=if quiet.contains k then none else some (a,(h'.get k).map (Blk.ren σ))
 | [],i,_,h=>by simp [posIn] at h
 | x::r,i,hn,h=>by
  simp only [List.map_cons,nodupO,Bool.and_eq_true] at hn
  simp only [List.map_cons,posIn] at h
  by_cases e:x=a
  ·subst e
   simp at h;subst h
   have hnot:x∉r:=fun hm=>by
    have h1:posIn (r.map some) x 0=none:=by simpa using hn.1
    obtain ⟨j,hj,hx⟩:=List.mem_iff_getElem.1 hm
    exact posIn_none h1 j (by rw [List.getElem?_map,List.getElem?_eq_getElem hj,hx];rfl)
   simp only [effO]
   split
   ·exact effO_none hnot
   ·simp
  ·have e2:(x == a)=false:=by simp [e]
   rw [e2,cond_false] at h
   have ih:=effO_find (σ:=σ) (quiet:=quiet) (h':=h') hn.2 h
   simp only [effO]
   split
   ·exact ih
   ·rw [List.find?_cons];simp only [e2];exact ih
theorem mem_of_posIn {src:List Nat} {a k:Nat} (h:posIn (src.map some) a 0=some k):a∈src:=List.mem_of_getElem? (posIn_map h)
theorem back_backF {H:Heap} {src:List Nat} (h':Heap) (hlt:∀a∈src,a < H.length):backF H.get H.length src h'=(H.back src h').get:=by
 funext a
 rw [back_get H src h' hlt]
 unfold backF
 by_cases c:a < H.length
 ·rw [if_pos c]
  cases posIn (src.map some) a 0 with
  | some i=>rfl
  | none=>simp only;rw [if_neg (by omega)]
 ·rw [if_neg c]
  cases hp:posIn (src.map some) a 0 with
  | some i=>exact absurd (hlt a (mem_of_posIn hp)) c
  | none=>
   simp only
   by_cases c2:H.length≤a∧a < H.length+(h'.length - src.length)
   ·rw [if_pos c2]
   ·rw [if_neg c2]
    have e1:H.get a=none:=by unfold Heap.get;rw [List.getElem?_eq_none (by omega)];rfl
    have e2:h'.get (src.length+(a - H.length))=none:=by unfold Heap.get;rw [List.getElem?_eq_none (by omega)];rfl
    rw [e1,e2];rfl
theorem effB_heap {H:Heap} {h:Nat→Option Blk} {src quiet:List Nat} {h':Heap} {r:Rec} (hr:r.eff=effB H.length src quiet h') (hn:nodupO (src.map some)=true) (hlt:∀a∈src,a < H.length) (hag:∀a∈src,h a=H.get a)
    (hq:∀i∈quiet,∀a,src[i]?=some a→(h'.get i).map (Blk.ren (outσ H.length src))=H.get a):backF h H.length src h'=r.heap h:=by
 funext a
 unfold Rec.heap
 rw [hr]
 unfold effB backF
 rw [List.find?_append,effN_find]
 cases hp:posIn (src.map some) a 0 with
 | some i=>
  have hm:=mem_of_posIn hp
  have:=hlt a hm
  have hno:¬(H.length≤a∧a < H.length+(List.drop src.length h').length):=by omega
  rw [if_neg hno,effO_find hn hp,Option.none_or]
  by_cases hqi:quiet.contains i=true
  ·rw [if_pos hqi]
   show Option.map (Blk.ren (outσ H.length src)) (h'.get i)=h a
   rw [hq i (by simpa using hqi) a (posIn_map hp),hag a hm]
  ·rw [if_neg hqi]
 | none=>
  have hm:a∉src:=fun hm=>by
   obtain ⟨j,hj,hx⟩:=List.mem_iff_getElem.1 hm
   exact posIn_none hp j (by rw [List.getElem?_map,List.getElem?_eq_getElem hj,hx];rfl)
  rw [effO_none hm]
  simp only [Option.or_none,List.length_drop]
  by_cases c:H.length≤a∧a < H.length+(h'.length - src.length)
  ·rw [if_pos c,if_pos c]
   simp only [List.getElem?_drop];rfl
  ·rw [if_neg c,if_neg c]
def softB (r s:Rec):Bool:=
 (match r.dst with|some d=>!s.looks.contains d&&(match s.dst with|some d'=>!(d == d')|none=>true)|none=>true) &&
 (match s.dst with|some d=>!r.looks.contains d|none=>true)&&r.eff.isEmpty
theorem softB_spec {r s:Rec} (h:softB r s=true):Soft r s:=by
 unfold softB at h
 simp only [Bool.and_eq_true] at h
 obtain ⟨⟨h1,h2⟩,h3⟩:=h
 refine ⟨fun t ht=>?_,fun t ht=>?_,fun a=>?_⟩
 ·have hd:r.dst=some t:=by simpa [Rec.wrE] using ht
  rw [hd] at h1
  simp only [Bool.and_eq_true] at h1
  refine ⟨by simpa using h1.1,?_⟩
  unfold Rec.wrE
  rw [decide_eq_false_iff_not]
  intro hs
  rw [hs] at h1
  simp at h1
 ·have hd:s.dst=some t:=by simpa [Rec.wrE] using ht
  rw [hd] at h2
  simpa using h2
 ·have:r.eff=[]:=by simpa using h3
  unfold Rec.wrH
  rw [this];rfl
def clearB (s:Rec) (l:List Rec):Bool:=l.all fun t=>s.need.all fun q=>!t.keys.contains q
theorem clearB_spec {s:Rec} {l:List Rec} (h:clearB s l=true):∀t∈l,∀a∈s.need,t.wrH a=false:=fun t ht a ha=>by
 unfold clearB at h
 rw [List.all_eq_true] at h
 have h1:=h t ht
 rw [List.all_eq_true] at h1
 have h2:=h1 a ha
 cases hq:t.wrH a with
 | false=>rfl
 | true=>have:=wrH_keys hq;simp [this] at h2
def indW (L:Lib) (H':Heap) (m:Nat) (r:Rec):Nat→List Rec→List (AI×Env)→Prop
 | _,[],_=>True
 | i,s::l,as=>(m.testBit i=true∨apartB s r=true∨∃a as',as=a::as'∧softB s r=true∧clearB s l=true∧a.1.plain L.G s.slot a.2.get H'.get=some s)∧indW L H' m r (i+1) l as.tail
theorem indW_spec {L:Lib} {H':Heap} {m:Nat} {r:Rec}:∀{l:List Rec} {as:List (AI×Env)} {i:Nat},indW L H' m r i l as→∀(k:Nat) (s:Rec),l[k]?=some s→
    m.testBit (i+k)=true∨Apart s r∨∃a,as[k]?=some a∧Soft s r∧(∀(q:Nat) (t:Rec),k < q→l[q]?=some t→∀x∈s.need,t.wrH x=false)∧a.1.plain L.G s.slot a.2.get H'.get=some s
 | [],as,i,_,k,s,h=>by simp at h
 | x::l,as,i,h,0,s,hs=>by
  simp at hs;subst hs
  rcases h.1 with h|h|⟨a,as',rfl,h1,h2,h3⟩
  ·exact .inl h
  ·exact .inr (.inl (apartB_spec h))
  ·refine .inr (.inr ⟨a,rfl,softB_spec h1,fun q t hq ht=>?_,h3⟩)
   cases q with
   | zero=>omega
   | succ q=>exact clearB_spec h2 t (List.mem_of_getElem? (by simpa using ht))
 | x::l,as,i,h,k+1,s,hs=>by
  have:=indW_spec h.2 k s (by simpa using hs)
  rw [show i+1+k=i+(k+1) by omega] at this
  rcases this with h1|h1|⟨a,h1,h2,h3,h4⟩
  ·exact .inl h1
  ·exact .inr (.inl h1)
  ·refine .inr (.inr ⟨a,?_,h2,fun q t hq ht=>?_,h4⟩)
   ·cases as with
    | nil=>simp at h1
    | cons b as=>simpa using h1
   ·cases q with
    | zero=>omega
    | succ q=>exact h3 q t (by omega) (by simpa using ht)
theorem indW_of {L:Lib} {H':Heap} {m:Nat} {r:Rec}:∀{l:List Rec} {as:List (AI×Env)} {i:Nat},indB m r i l=true→indW L H' m r i l as
 | [],as,i,_=>trivial
 | x::l,as,i,h=>by
  simp only [indB,Bool.and_eq_true,Bool.or_eq_true] at h
  exact ⟨h.1.imp id .inl,indW_of h.2⟩
theorem RecOk.base {C:Ctx} {N:Nat} {ops:Array Oper} {o:Oper} {r:Rec} {E0:Nat→Option V} {h0 h1:Nat→Option Blk} (h:RecOk C N ops o r E0 h0) (he:∀a∈r.need,h1 a=h0 a):RecOk C N ops o r E0 h1:=
 fun B E h' β a w hE hh hs hn rs=>h B E h' β a w hE (fun q hq=>(hh q hq).trans (he q hq)) hs hn rs
def FnD (L:Lib) (k:Tgt) (vs:List V) (H:Heap) (K:V→List Nat→List (Nat×Option Blk)→Nat→Heap→Prop):Prop:=
 ∃(src bor quiet:List Nat) (r0:V) (h':Heap) (k':Tgt),k.sub (src.map some)=some k'∧nodupO (src.map some)=true∧(src.all fun a=>Nat.blt a H.length)=true∧
  AFn L k' (vs.map (V.ren (sgOf H (src.map some) bor))) (H.sh (src.map some) bor) (fun r h=>r=r0∧h=h')∧outOk bor r0 h'=true∧src.length≤h'.length∧
  (∀i∈quiet,∀a,src[i]?=some a→(h'.get i).map (Blk.ren (outσ H.length src))=H.get a)∧
  K (r0.ren (outσ H.length src)) (src++bor) (effB H.length src quiet h') (h'.length - src.length) (H.back src h')
def dstepP (L:Lib) (i:AI) (K:Rec→Env→Heap→Prop) (E:Env) (H:Heap):Prop:=
 match i.goes E.get with
 | some false=>K { dst:=i.dst,looks:=i.looks,v:=some (.tup []),need:=[],eff:=[],slot:=H.length,k:=0 } (E.put i.dst (.tup [])) H
 | some true=>
  match i.op with
  | .call c args=>
   match callee L.G E.get c args with
   | some (k,vs)=>FnD L k vs H fun r nd ef n H'=>K { dst:=i.dst,looks:=i.looks,v:=some r,need:=nd,eff:=ef,slot:=H.length,k:=n } (E.put i.dst r) H'
   | none=>False
  | op=>match op.exec H.length H.get (opval L.G E.get) with
   | some e=>(e.upd.all fun p=>Nat.blt p.1 H.length)=true∧K { dst:=i.dst,looks:=i.looks,v:=some e.v,need:=e.need,eff:=e.all H.length,slot:=H.length,k:=e.new.length } (E.put i.dst e.v) (H.app e)
   | none=>False
 | none=>False
def dopsP (L:Lib):List AI→List Rec→List Nat→(Env→Heap→Prop)→Env→Heap→Prop
 | [],_,_,K,E,H=>K E H
 | i::l,rs,ms,K,E,H=>dstepP L i (fun r E' H'=>indB (ancM ms i.anc) r 0 rs=true∧dopsP L l (rs++[r]) (ms++[ancM ms i.anc]) K E' H') E H
def dopsS (L:Lib):List AI→List Rec→List (AI×Env)→List Nat→(Env→Heap→Prop)→Env→Heap→Prop
 | [],_,_,_,K,E,H=>K E H
 | i::l,rs,as,ms,K,E,H=>dstepP L i (fun r E' H'=>indW L H' (ancM ms i.anc) r 0 rs as∧dopsS L l (rs++[r]) (as++[(i,E)]) (ms++[ancM ms i.anc]) K E' H') E H
theorem FnD.mono {L:Lib} {k:Tgt} {vs:List V} {H:Heap} {K K':V→List Nat→List (Nat×Option Blk)→Nat→Heap→Prop} (h:FnD L k vs H K) (hk:∀r nd ef n H',K r nd ef n H'→K' r nd ef n H'):FnD L k vs H K':=by
 obtain ⟨src,bor,quiet,r0,h',k',h1,h2,h3,h4,h5,h6,h7,h8⟩:=h
 exact ⟨src,bor,quiet,r0,h',k',h1,h2,h3,h4,h5,h6,h7,hk _ _ _ _ _ h8⟩
theorem dstepP.mono {L:Lib} {i:AI} {K K':Rec→Env→Heap→Prop} {E:Env} {H:Heap} (h:dstepP L i K E H) (hk:∀r E' H',K r E' H'→K' r E' H'):dstepP L i K' E H:=by
 unfold dstepP at h ⊢
 split at h
 ·exact hk _ _ _ h
 ·split at h
  ·split at h
   ·exact FnD.mono h (fun r nd ef n H' hr=>hk _ _ _ hr)
   ·exact h
  ·split at h
   ·exact ⟨h.1,hk _ _ _ h.2⟩
   ·exact h
 ·exact h
theorem dopsS_of {L:Lib} {K:Env→Heap→Prop}:∀{l:List AI} {rs:List Rec} {as:List (AI×Env)} {ms:List Nat} {E:Env} {H:Heap},dopsP L l rs ms K E H→dopsS L l rs as ms K E H
 | [],rs,as,ms,E,H,h=>h
 | i::l,rs,as,ms,E,H,h=>dstepP.mono (K:=fun r E' H'=>indB (ancM ms i.anc) r 0 rs=true∧dopsP L l (rs++[r]) (ms++[ancM ms i.anc]) K E' H') h (fun r E' H' ⟨h1,h2⟩=>⟨indW_of h1,dopsS_of h2⟩)
section
variable {L:Lib} {C:Ctx} {B:Base} {N:Nat}
theorem callee_looks {ai:AI} {E E0:Nat→Option V} {c:ACallee} {args:List AOpd} (hc:ai.op=.call c args) (h:∀t∈ai.looks,E t=E0 t):callee L.G E c args=callee L.G E0 c args:=by
 have h1:=looks_opd L.G h
 rw [hc] at h1
 unfold callee
 rw [evals_congr (fun x hx=>h1 x (by simp [AOp.opds,hx]))]
 cases c with
 | fn k=>rfl
 | dyn x=>
  have:=h1 x (by simp [AOp.opds])
  simp only [this]
 | meth x tab=>
  have:=h1 x (by simp [AOp.opds])
  simp only [this]
theorem call_ok (hC:Ok L C) {ops:Array Oper} {draw:Bool} {i:Nat} {o:Oper} {ai:AI} (hai:C.T.oper N ops draw i o=some ai) {c:ACallee} {args:List AOpd} (hc:ai.op=.call c args) {E0:Nat→Option V} (hg:ai.goes E0=some true) {H:Heap} {k k':Tgt} {vs:List V} (hcl:callee L.G E0 c args=some (k,vs))
    {src bor quiet:List Nat} {r0:V} {h':Heap} (hn:nodupO (src.map some)=true) (hlt:∀a∈src,a < H.length) (ht:k.sub (src.map some)=some k') (hP:AFn L k' (vs.map (V.ren (sgOf H (src.map some) bor))) (H.sh (src.map some) bor) (fun r h=>r=r0∧h=h')) (hout:outOk bor r0 h'=true)
    (hq:∀i∈quiet,∀a,src[i]?=some a→(h'.get i).map (Blk.ren (outσ H.length src))=H.get a) :
    RecOk C N ops o { dst:=ai.dst,looks:=ai.looks,v:=some (r0.ren (outσ H.length src)),need:=src++bor,eff:=effB H.length src quiet h',slot:=H.length,k:=h'.length - src.length } E0 H.get:=by
 intro B E h β a w hE hh hs hn0 rs K Q hK
 obtain ⟨hop,hdst,hdn,_,_,_,hcall⟩:=Tr.oper_spec hai
 have hg':ai.goes E=some true:=by rw [looks_goes hE];exact hg
 rw [goes_wanted hai rs hg',if_pos rfl]
 have hop:C.T.op o.op=some ai.op:=(hop (by rw [hc];simp)).resolve_right (fun hx=>by rw [hc] at hx;exact xop_call hx)
 rw [hc] at hop hcall
 have hcl':callee L.G E c args=some (k,vs):=by rw [callee_looks hc hE];exact hcl
 obtain ⟨xs,h2,h4⟩:=call_resolves hC rs hop (hcall rfl) hcl'
 refine enter_wp (h:=h) (β:=β) (fun c hc=>by rw [hc] at hop;simp [Tr.op] at hop) h4 (frame_fn (n:=H.length) src bor hn ht hP hC (fun b hb=>B.hA b ?_) rs.heap rs.glob h2 (fun q hq=>?_) hlt (fun r h'' ⟨e1,e2⟩=>?_)) ?_
 ·rcases hb with hb|hb
  ·left;exact Nat.le_trans rs.frm.size hb
  ·exact rs.own b hb
 ·rw [hh q ?_]
  rcases hq with hq|⟨j,hq⟩
  ·exact List.mem_append_right _ (by simpa using hq)
  ·rw [List.getElem?_map,Option.map_eq_some_iff] at hq
   obtain ⟨q',hq',e⟩:=hq
   cases e
   exact List.mem_append_left _ (List.mem_of_getElem? hq')
 ·subst e1;subst e2
  exact ⟨hout,hs⟩
 ·rintro e w' ⟨v,rr,h'',β',rfl,⟨rfl,rfl⟩,g1,g2,g3,g4,g5,g6,g7⟩
  have hb:=effB_heap (r:={ dst:=ai.dst,looks:=ai.looks,v:=some (rr.ren (outσ H.length src)),need:=src++bor,eff:=effB H.length src quiet h'',slot:=H.length,k:=h''.length - src.length }) rfl hn hlt (h:=h) (fun q hq=>hh q (List.mem_append_left _ hq)) hq
  rw [hb] at g4 g5 g6
  refine ⟨v,rfl,?_⟩
  refine hK _ _ β' (fun q hq=>g2 q hq) ?_
  have hst:=rs.step (dst:=o.dst) (v:=some (rr.ren (outσ H.length src))) (x:=v) (β':=β') g3 (fun q hq=>g2 q (by have:B.n0≤H.length:=hn0;omega)) g4 g6 g7 (fun v' hv'=>by cases hv';exact g5) (fun d hd=>hdn d hd)
  rw [←hdst] at hst ⊢
  exact hst
theorem dstep_good (hC:Ok L C) {ops:Array Oper} {i:Nat} {o:Oper} {ai:AI} (hai:C.T.oper N ops true i o=some ai) {E:Env} {H:Heap} {K:Rec→Env→Heap→Prop} (hP:dstepP L ai K E H) :
    ∃r E' H',K r E' H'∧RecOk C N ops o r E.get H.get∧r.slot=H.length∧H.length+r.k=H'.length∧E'.get=r.env E.get∧H'.get=r.heap H.get:=by
 unfold dstepP at hP
 split at hP
 ·rename_i hg
  refine ⟨_,_,_,hP,plain_ok hC hai (by unfold AI.plain;rw [hg]),rfl,rfl,?_,rfl⟩
  funext t;rw [Env.get_put];rfl
 ·rename_i hg
  split at hP
  ·rename_i c args hc
   split at hP
   ·rename_i k vs hcl
    obtain ⟨src,bor,quiet,r0,h',k',ht,h1,h2,h3,h4,h5,h6,h7⟩:=hP
    have hlt:∀a∈src,a < H.length:=fun a h=>by simpa using List.all_eq_true.1 h2 a h
    refine ⟨_,_,_,h7,call_ok hC hai hc hg hcl h1 hlt ht h3 h4 h6,rfl,by rw [back_length],?_,?_⟩
    ·funext t;rw [Env.get_put];rfl
    ·rw [←back_backF h' hlt];exact effB_heap rfl h1 hlt (fun _ _=>rfl) h6
   ·exact hP.elim
  ·split at hP
   ·rename_i e he
    obtain ⟨hall,hk⟩:=hP
    have hlt:∀p∈e.upd,p.1 < H.length:=fun p hp=>by simpa using List.all_eq_true.1 hall p hp
    refine ⟨_,_,_,hk,plain_ok hC hai (slot:=H.length) (by unfold AI.plain;rw [hg];simp only;rw [he];rfl),rfl,by rw [Heap.app_length],?_,?_⟩
    ·funext t;rw [Env.get_put];rfl
    ·rw [Heap.app_get H e hlt];funext q;exact (Eff.all_heap e _ _ q).symm
   ·exact hP.elim
 ·exact hP.elim
theorem sel_append {α β:Type} (wr:Rec→α→Bool) (vl:Rec→α→β) (X:Nat→Bool):∀(l m:List Rec) (i:Nat) (f:α→β),sel wr vl X i (l++m) f=sel wr vl X (i+l.length) m (sel wr vl X i l f)
 | [],m,i,f=>rfl
 | r::l,m,i,f=>by
  simp only [List.cons_append,sel,List.length_cons]
  rw [sel_append wr vl X l m (i+1)]
  congr 1;omega
theorem sel_congr {α β:Type} (wr:Rec→α→Bool) (vl:Rec→α→β) {X Y:Nat→Bool} (l:List Rec) (f:α→β) (h:∀k,k < l.length→X k=Y k):sel wr vl X 0 l f=sel wr vl Y 0 l f:=by
 funext a
 exact sel_agree wr vl l 0 f f rfl (fun k r hk _=>by rw [Nat.zero_add];exact h k (List.getElem?_eq_some_iff.1 hk).1)
theorem sel_snoc {α β:Type} (wr:Rec→α→Bool) (vl:Rec→α→β) (l:List Rec) (r:Rec) (f:α→β) {j:Nat} (h:j≤l.length):sel wr vl (fun i=>decide (i < j)) 0 (l++[r]) f=sel wr vl (fun i=>decide (i < j)) 0 l f:=by
 rw [sel_append]
 have:decide (0+l.length < j)=false:=by simp;omega
 simp only [sel,this]
 rfl
structure Good (C:Ctx) (N:Nat) (ops:Array Oper) (E0:Env) (H0:Heap) (recs:List Rec) (as:List (AI×Env)) (ms:List Nat) (E:Env) (H:Heap):Prop where
 env:∀(i:Nat) (a:AI×Env),as[i]?=some a→i < recs.length∧a.2.get=selE (fun x=>decide (x < i)) recs E0.get∧∀o,ops[i]?=some o→C.T.oper N ops true i o=some a.1
 alen:as.length=recs.length
 len:recs.length≤ops.size
 mlen:ms.length=recs.length
 ok:∀(j:Nat) (r:Rec) (o:Oper),recs[j]?=some r→ops[j]?=some o→RecOk C N ops o r (selE (fun i=>decide (i < j)) recs E0.get) (selH (fun i=>decide (i < j)) recs H0.get)
 msk:∀(j:Nat) (o:Oper),j < recs.length→ops[j]?=some o→∀d,(ms.getD j 0).testBit d=true→∃x∈Tr.deps o,x < j∧(d=x∨(ms.getD x 0).testBit d=true)
 ind:∀(i j:Nat) (r s:Rec),i < j→recs[i]?=some r→recs[j]?=some s→(ms.getD j 0).testBit i=true∨Apart r s∨(Soft r s∧(∀(k:Nat) (t:Rec),i < k→k < j→recs[k]?=some t→∀a∈r.need,t.wrH a=false)∧
     ∀o,ops[i]?=some o→RecOk C N ops o r (selE (fun x=>decide (x < i)) recs E0.get) (selH (fun x=>decide (x < i)||x == j) recs H0.get))
 slot:∀(i j:Nat) (r s:Rec),i < j→recs[i]?=some r→recs[j]?=some s→r.slot+r.k≤s.slot
 n0:∀(j:Nat) (r:Rec),recs[j]?=some r→H0.length≤r.slot∧r.slot+r.k≤H.length
 hE:E.get=selE (fun _=>true) recs E0.get
 hH:H.get=selH (fun _=>true) recs H0.get
 hl:H0.length≤H.length
theorem Good.snoc (hC:Ok L C) {ops:Array Oper} {E0:Env} {H0:Heap} {recs:List Rec} {as:List (AI×Env)} {ms:List Nat} {E E':Env} {H H':Heap} (g:Good C N ops E0 H0 recs as ms E H) {r:Rec} {o:Oper} {ai:AI} (ho:ops[recs.length]?=some o) (hai:C.T.oper N ops true recs.length o=some ai)
    (h1:RecOk C N ops o r E.get H.get) (h2:r.slot=H.length) (h3:H.length+r.k=H'.length) (h4:E'.get=r.env E.get) (h5:H'.get=r.heap H.get) (h6:indW L H' (ancM ms ai.anc) r 0 recs as):Good C N ops E0 H0 (recs++[r]) (as++[(ai,E)]) (ms++[ancM ms ai.anc]) E' H':=by
 obtain ⟨_,_,_,hanc,hdlt,_,_⟩:=Tr.oper_spec hai
 have hm1:∀x,x < recs.length→(ms++[ancM ms ai.anc]).getD x 0=ms.getD x 0:=fun x hx=>by
  simp only [List.getD_eq_getElem?_getD];rw [List.getElem?_append_left (by rw [g.mlen];exact hx)]
 have hm2:(ms++[ancM ms ai.anc]).getD recs.length 0=ancM ms ai.anc:=by
  simp only [List.getD_eq_getElem?_getD];rw [List.getElem?_append_right (by rw [g.mlen];exact Nat.le_refl _),g.mlen];simp
 have hcase:∀(j:Nat) (s:Rec),(recs++[r])[j]?=some s→(j < recs.length∧recs[j]?=some s)∨(j=recs.length∧s=r):=fun j s hj=>by
  rw [List.getElem?_append] at hj
  by_cases c:j < recs.length
  ·rw [if_pos c] at hj;exact .inl ⟨c,hj⟩
  ·rw [if_neg c] at hj
   have h1:=(List.getElem?_eq_some_iff.1 hj).1
   simp at h1
   have h2:j=recs.length:=by omega
   subst h2
   simp at hj
   exact .inr ⟨rfl,hj.symm⟩
 have hHall:H'.get=selH (fun _=>true) (recs++[r]) H0.get:=by
  have e1:=g.hH
  simp only [selH] at e1 ⊢
  rw [sel_append]
  simp only [sel,if_true]
  rw [←e1,h5,Rec.heap_upd]
 refine ⟨fun i a hi=>?_,by simp [g.alen],by have:=(Array.getElem?_eq_some_iff.1 ho).1;simp;omega,by simp [g.mlen],fun j s o' hj ho'=>?_,fun j o' hj ho' d hd=>?_,fun i j s t hij hi hj=>?_,fun i j s t hij hi hj=>?_,fun j s hj=>?_,?_,?_,by have:=g.hl;omega⟩
 ·rw [List.getElem?_append] at hi
  by_cases c:i < as.length
  ·rw [if_pos c] at hi
   obtain ⟨e1,e2,e3⟩:=g.env i a hi
   refine ⟨by simp;omega,?_,e3⟩
   simp only [selE] at e2 ⊢
   rw [sel_snoc _ _ _ _ _ (by omega)];exact e2
  ·rw [if_neg c] at hi
   have h1:=(List.getElem?_eq_some_iff.1 hi).1
   simp at h1
   have h2:i=recs.length:=by have:=g.alen;omega
   subst h2
   rw [g.alen,Nat.sub_self] at hi
   simp at hi
   subst hi
   refine ⟨by simp,?_,fun o' ho'=>by rw [ho] at ho';cases ho';exact hai⟩
   have e1:=g.hE
   simp only [selE] at e1 ⊢
   rw [sel_snoc _ _ _ _ _ (Nat.le_refl _),sel_congr Rec.wrE Rec.vlE recs E0.get (Y:=fun _=>true) (fun k hk=>by simp [hk])]
   exact e1
 ·rcases hcase j s hj with ⟨c,hj'⟩|⟨rfl,rfl⟩
  ·have:=g.ok j s o' hj' ho'
   simp only [selE,selH] at this ⊢
   rw [sel_snoc _ _ _ _ _ (by omega),sel_snoc _ _ _ _ _ (by omega)];exact this
  ·rw [ho] at ho';cases ho'
   simp only [selE,selH]
   rw [sel_snoc _ _ _ _ _ (Nat.le_refl _),sel_snoc _ _ _ _ _ (Nat.le_refl _)]
   rw [sel_congr Rec.wrE Rec.vlE recs E0.get (Y:=fun _=>true) (fun k hk=>by simp [hk]),sel_congr Rec.wrH Rec.vlH recs H0.get (Y:=fun _=>true) (fun k hk=>by simp [hk])]
   have e1:=g.hE;have e2:=g.hH
   simp only [selE,selH] at e1 e2
   rw [←e1,←e2];exact h1
 ·by_cases c:j < recs.length
  ·rw [hm1 j c] at hd
   obtain ⟨x,hx,hxj,h⟩:=g.msk j o' c ho' d hd
   exact ⟨x,hx,hxj,by rw [hm1 x (by omega)];exact h⟩
  ·have e:j=recs.length:=by simp at hj;omega
   subst e
   rw [ho] at ho';cases ho'
   rw [hm2] at hd
   obtain ⟨x,hx,h⟩:=ancM_spec hd
   rw [hanc rfl] at hx
   have hxl:=hdlt x hx
   exact ⟨x,hx,hxl,by rw [hm1 x hxl];exact h⟩
 ·rcases hcase j t hj with ⟨c,hj'⟩|⟨rfl,rfl⟩
  ·rcases hcase i s hi with ⟨c',hi'⟩|⟨rfl,rfl⟩
   ·rw [hm1 j c]
    rcases g.ind i j s t hij hi' hj' with h|h|⟨q1,q2,q3⟩
    ·exact .inl h
    ·exact .inr (.inl h)
    ·refine .inr (.inr ⟨q1,fun k t' hk1 hk2 hk=>q2 k t' hk1 hk2 ?_,fun o' ho'=>?_⟩)
     ·rw [List.getElem?_append,if_pos (by omega)] at hk;exact hk
     ·have:=q3 o' ho'
      simp only [selE,selH] at this ⊢
      rw [sel_snoc _ _ _ _ _ (by omega),sel_append]
      have hx:(decide (0+recs.length < i)||0+recs.length == j)=false:=by
       rw [Bool.or_eq_false_iff]
       constructor
       ·simp;omega
       ·simp;omega
      simp only [sel,hx,Bool.false_eq_true,if_false]
      exact this
   ·omega
  ·rcases hcase i s hi with ⟨c',hi'⟩|⟨rfl,rfl⟩
   ·rw [hm2]
    rcases indW_spec h6 i s hi' with h|h|⟨a,ha,q1,q2,q3⟩
    ·rw [Nat.zero_add] at h;exact .inl h
    ·exact .inr (.inl h)
    ·obtain ⟨_,e2,e3⟩:=g.env i a ha
     refine .inr (.inr ⟨q1,fun k t' hk1 hk2 hk=>?_,fun o' ho'=>?_⟩)
     ·rw [List.getElem?_append,if_pos hk2] at hk
      exact q2 k t' hk1 hk
     ·have hrec:=plain_ok hC (e3 o' ho') q3
      rw [e2] at hrec
      have e4:selE (fun x=>decide (x < i)) (recs++[t]) E0.get=selE (fun x=>decide (x < i)) recs E0.get:=by
       simp only [selE];exact sel_snoc _ _ _ _ _ (by omega)
      rw [e4]
      refine hrec.base (fun q hq=>?_)
      rw [hHall]
      refine sel_agree _ _ _ 0 _ _ rfl (fun k t' hk hw=>?_)
      rw [Nat.zero_add]
      rcases hcase k t' hk with ⟨c1,hk'⟩|⟨rfl,rfl⟩
      ·by_cases c2:k < i
       ·rw [decide_eq_true c2];rfl
       ·by_cases c3:k=i
        ·subst c3
         rw [hi'] at hk';cases hk'
         rw [q1.h1 q] at hw;cases hw
        ·have:=q2 k t' (by omega) hk' q hq
         rw [this] at hw;cases hw
      ·simp
   ·omega
 ·rcases hcase j t hj with ⟨c,hj'⟩|⟨rfl,rfl⟩
  ·rcases hcase i s hi with ⟨c',hi'⟩|⟨rfl,rfl⟩
   ·exact g.slot i j s t hij hi' hj'
   ·omega
  ·rcases hcase i s hi with ⟨c',hi'⟩|⟨rfl,rfl⟩
   ·rw [h2];exact (g.n0 i s hi').2
   ·omega
 ·rcases hcase j s hj with ⟨c,hj'⟩|⟨rfl,rfl⟩
  ·have:=g.n0 j s hj';omega
  ·have:=g.hl;omega
 ·have e1:=g.hE
  simp only [selE] at e1 ⊢
  rw [sel_append]
  simp only [sel,if_true]
  rw [←e1,h4,Rec.env_upd]
 ·exact hHall
theorem dops_good (hC:Ok L C) {ops:Array Oper} {E0:Env} {H0:Heap} {K:Env→Heap→Prop}:∀(l:List Oper) (ais:List AI) (recs:List Rec) (as:List (AI×Env)) (ms:List Nat) (E:Env) (H:Heap),ops.toList.drop recs.length=l→C.T.opers N ops true recs.length l=some ais→Good C N ops E0 H0 recs as ms E H→dopsS L ais recs as ms K E H→
    ∃recs' as' ms' E' H',recs'.length=ops.size∧Good C N ops E0 H0 recs' as' ms' E' H'∧K E' H'
 | [],ais,recs,as,ms,E,H,hl,h,g,hP=>by
  simp [Tr.opers] at h;subst h
  have hle:ops.size≤recs.length:=by simpa using hl
  exact ⟨recs,as,ms,E,H,by have:=g.len;omega,g,hP⟩
 | o::l,ais,recs,as,ms,E,H,hl,h,g,hP=>by
  simp only [Tr.opers,Option.bind_eq_some_iff] at h
  obtain ⟨ai,hai,ais',hais,h⟩:=h
  simp only [Option.some.injEq] at h
  subst h
  have ho:ops[recs.length]?=some o:=by
   have:(ops.toList.drop recs.length)[0]?=some o:=by rw [hl];rfl
   simpa [List.getElem?_drop] using this
  obtain ⟨r,E',H',⟨h1,h2⟩,h3,h4,h5,h6,h7⟩:=dstep_good hC hai hP
  have hg:=g.snoc hC ho hai h3 h4 h5 h6 h7 h1
  refine dops_good hC l ais' (recs++[r]) _ _ E' H' ?_ (by simpa using hais) hg h2
  rw [List.length_append,List.length_singleton,←List.drop_drop,hl]
  rfl
theorem draw_wpS (hC:Ok L C) {ops:Array Oper} {ais:List AI} {id:Nat} {Q:Exit→Act→World→Prop} {K:Env→Heap→Prop} (hais:C.T.opers N ops true 0 ops.toList=some ais) {E:Env} {H:Heap} {a:Act} {w:World} (r:RSx C B N E H a w) (hP:dopsS L ais [] [] [] K E H)
    (hK:∀a' w' E' H',K E' H'→RSx C B N E' H' a' w'→Q .normal a' w'):(Code.region id ops true).wpIn B.fw 0 C.T.P Q a w:=by
 obtain ⟨β,r⟩:=r
 obtain ⟨recs,as,ms,E',H',hlen,g,hk⟩:=dops_good hC ops.toList ais [] [] [] E H (by simp) hais ⟨fun i a h=>by simp at h,rfl,by simp,rfl,fun j r o h=>by simp at h,fun j o h=>by simp at h,fun i j r s _ h=>by simp at h,fun i j r s _ h=>by simp at h,fun j r h=>by simp at h,rfl,rfl,Nat.le_refl _⟩ hP
 refine wpIn_region_any C.mixed ?_
 have hd:∀(j:Nat) (o:Oper),ops[j]?=some o→∀d∈Tr.deps o,d < j:=fun j o ho=>by
  have:∀(l:List Oper) (i:Nat) (as:List AI),C.T.opers N ops true i l=some as→∀(k:Nat) (o:Oper),l[k]?=some o→∀d∈Tr.deps o,d < i+k:=by
   intro l
   induction l with
   | nil=>intro i as _ k o h;simp at h
   | cons x l ih=>
    intro i as h k o hk
    simp only [Tr.opers,Option.bind_eq_some_iff] at h
    obtain ⟨ai,hai,as',has,_⟩:=h
    cases k with
    | zero=>
     simp at hk;subst hk
     obtain ⟨_,_,_,_,h5,_,_⟩:=Tr.oper_spec hai
     exact h5
    | succ k=>
     have:=ih (i+1) as' has k o (by simpa using hk)
     rwa [show i+1+k=i+(k+1) by omega] at this
  have:=this ops.toList 0 ais hais j o (by simpa using ho)
  rwa [Nat.zero_add] at this
 have hnod:RS C B N E.get H.get β a { w with drawn:=w.drawn+1 }:=by
  obtain ⟨β',h1,h2,h3,h4,h5⟩:=effOk_same (w':={ w with drawn:=w.drawn+1 }) (e:={ v:=.tup [] }) (n:=H.length) (x:=.tuple #[]) r.rs.heap rfl rfl rfl rfl rfl rfl (.tup _ _ _ rfl (fun i c y h=>by simp at h))
  have hb:β'=β:=by funext q;exact h1 q (by simp)
  subst hb
  have he:=Eff.heap_none (e:={ v:=.tup [] }) (n:=H.length) (h:=H.get) rfl rfl
  rw [he] at h2 h3 h4
  have:=r.rs.step (dst:=none) (v:=none) (x:=undef) (fun _ _ h=>h) (fun _ _=>rfl) h2 h4 h5 (fun v' hv=>by cases hv) (fun d hd=>by cases hd)
  exact this
 refine drawn_any (B:=B) (recs:=recs) (E0:=E.get) (h0:=H.get) (nfin:=H'.length) (Anc:=fun j=>(List.range ops.size).filter fun d=>(ms.getD j 0).testBit d) hlen g.ok hd (fun j o ho d hd'=>?_) (fun i j s t hij hi hj=>?_) g.slot (fun j s hj=>?_) (fun a' w' β' rs' hdom=>?_) ops.size (Array.replicate ops.size false) a _ β (by simp) ?_ (fun j o ho hl=>?_) ?_ (fun j s hj _ i h1 h2=>r.dom i (by have:=(g.n0 j s hj).1;omega)) (fun i hi=>r.dom i (by have:=g.hl;omega))
 ·rw [List.mem_filter] at hd'
  obtain ⟨x,hx,hxj,h⟩:=g.msk j o (by rw [hlen];exact (Array.getElem?_eq_some_iff.1 ho).1) ho d hd'.2
  rcases h with rfl|h
  ·exact .inl hx
  ·exact .inr ⟨x,hx,List.mem_filter.2 ⟨hd'.1,h⟩⟩
 ·rcases g.ind i j s t hij hi hj with h|h
  ·left
   exact List.mem_filter.2 ⟨List.mem_range.2 (by rw [←hlen];exact (List.getElem?_eq_some_iff.1 hi).1),h⟩
  ·exact .inr h
 ·have:=g.n0 j s hj
  have:=r.n0
  omega
 ·refine hK _ _ _ _ hk ⟨β',⟨?_,hdom,by have:=r.n0;have:=g.hl;omega⟩⟩
  have e1:=g.hE;have e2:=g.hH
  rw [←e1,←e2] at rs';exact rs'
 ·have:∀i∈List.range ops.size,(!(Array.replicate ops.size false).getD i false)=true:=fun i hi=>by
    have:(Array.replicate ops.size false).getD i false=false:=by
     rw [Array.getD_eq_getD_getElem?,Array.getElem?_replicate];split <;> rfl
    rw [this];rfl
  rw [List.countP_eq_length.2 this];simp
 ·have:(Array.replicate ops.size false).getD j false=false:=by
    rw [Array.getD_eq_getD_getElem?,Array.getElem?_replicate];split <;> rfl
  rw [this] at hl;cases hl
 ·have:(fun i=>(Array.replicate ops.size false).getD i false)=fun _=>false:=by
    funext i;rw [Array.getD_eq_getD_getElem?,Array.getElem?_replicate];split <;> rfl
  rw [this]
  have e1:selE (fun _=>false) recs E.get=E.get:=by funext t;exact sel_none _ _ recs 0 _ (fun _ _ _ _=>rfl)
  have e2:selH (fun _=>false) recs H.get=H.get:=by funext t;exact sel_none _ _ recs 0 _ (fun _ _ _ _=>rfl)
  rw [e1,e2];exact hnod
theorem draw_wp (hC:Ok L C) {ops:Array Oper} {ais:List AI} {id:Nat} {Q:Exit→Act→World→Prop} {K:Env→Heap→Prop} (hais:C.T.opers N ops true 0 ops.toList=some ais) {E:Env} {H:Heap} {a:Act} {w:World} (r:RSx C B N E H a w) (hP:dopsP L ais [] [] K E H)
    (hK:∀a' w' E' H',K E' H'→RSx C B N E' H' a' w'→Q .normal a' w'):(Code.region id ops true).wpIn B.fw 0 C.T.P Q a w:=draw_wpS hC hais r (dopsS_of hP) hK
end
end Go.Proofs.YtigdhgbkgfagiaaGreat
namespace Go.Proofs.YtigdhgbkgfagiaaGreat
def AX.then (next:Env→Heap→Prop) (Q:Exit→Env→Heap→Prop):Exit→Env→Heap→Prop
 | .normal,E,H=>next E H
 | e,E,H=>Q e E H
def AX.inBlock (id:Nat) (Q:Exit→Env→Heap→Prop):Exit→Env→Heap→Prop
 | .exit id',E,H=>if id'=id then Q .normal E H else Q (.exit id') E H
 | e,E,H=>Q e E H
def noG:Exit→Prop
 | .goto _=>False
 | _=>True
def QX (C:Ctx) (B:Base) (N:Nat) (Q:Exit→Env→Heap→Prop) (e:Exit) (a:Act) (w:World):Prop:=noG e∧∃E H,Q e E H∧RSx C B N E H a w
section
variable {P:Program} {F:Fence} {n:Nat} {b:Frame} {a:Act} {k:List Item} {cs:List Frame} {w:World} {Q:Exit→Act→World→Prop}
theorem stepR_scope {c:Code}:step P (lone (b.atR a (.code (.scope c)::k)) cs w)=.next (lone (b.atR a (.code c::.inScope c::k)) cs w):=
 step_lone_go (by simp [stepG,stepG.exec,Frame.atR])
theorem stepR_inScope {c:Code}:step P (lone (b.atR a (.inScope c::k)) cs w)=.next (lone (b.atR a k) cs w):=
 step_lone_go (by simp [stepG,stepG.exec,Frame.atR])
theorem wpIn_scope {c:Code} (hg:∀e a w,Q e a w→noG e) (h:c.wpIn F n P Q a w):(Code.scope c).wpIn F n P Q a w:=by
 intro b k cs hro hb hr
 have h0:(lone (b.atR a (.code (.scope c)::k)) cs w).fenced P F:=fenced_calm hb hr rfl
 obtain ⟨e,a₁,w₁,hq,harr⟩:=h b (.inScope c::k) cs hro hb hr
 cases e with
 | normal=>exact ⟨.normal,a₁,w₁,hq,.head h0 stepR_scope (StepsIn.trans harr (.one (fenced_calm hb hr rfl) stepR_inScope))⟩
 | exit id'=>
  have hx:exitTo id' (.inScope c::k)=exitTo id' k:=by simp [exitTo]
  exact ⟨.exit id',a₁,w₁,hq,fun k' hk=>.head h0 stepR_scope (harr.1 k' (by rw [hx];exact hk)),
   fun hr' hk=>let ⟨k₁,h1,h2⟩:=harr.2 hr' (by rw [hx];exact hk);⟨k₁,h1,.head h0 stepR_scope h2⟩⟩
 | goto l=>exact (hg _ _ _ hq).elim
 | ret=>exact ⟨_,a₁,w₁,hq,.of_steps (.one h0 stepR_scope) harr⟩
 | panic ch=>exact ⟨_,a₁,w₁,hq,.of_steps (.one h0 stepR_scope) harr⟩
 | outgrown=>exact ⟨_,a₁,w₁,hq,.of_steps (.one h0 stepR_scope) harr⟩
end
def SWP (L:Lib) (n0 N:Nat) (c:AC) (Q:Exit→Env→Heap→Prop) (E:Env) (H:Heap):Prop:=
 ∀(C:Ctx) (B:Base),Ok L C→B.n0=n0→∀(kills:List (List Nat)) (code:Code),C.T.code N kills code=some c→∀(a:Act) (w:World),RSx C B N E H a w→code.wpIn B.fw 0 C.T.P (QX C B N Q) a w
section
variable {L:Lib} {n0 N:Nat} {Q Q':Exit→Env→Heap→Prop} {E E':Env} {H:Heap}
theorem SWP.mono {c:AC} (h:SWP L n0 N c Q' E H) (hq:∀e E H,Q' e E H→Q e E H):SWP L n0 N c Q E H:=
 fun C B hC hB kills code hc a w r=>Code.wpIn_mono (fun e a w ⟨g,E,H,h1,h2⟩=>⟨g,E,H,hq _ _ _ h1,h2⟩) (h C B hC hB kills code hc a w r)
theorem SWP.forget {c:AC} (he:∀t v,E'.get t=some v→E.get t=some v) (h:SWP L n0 N c Q E' H):SWP L n0 N c Q E H:=
 fun C B hC hB kills code hc a w ⟨β,r⟩=>h C B hC hB kills code hc a w ⟨β,r.sub he⟩
theorem SWP.shift {c:AC} (src:List (Option Nat)) (fz:List Nat) (hok:okSh n0 src=true) (h:SWP L n0 N c Q (E.sh (sgOf H src fz)) (H.sh src fz)):SWP L n0 N c Q E H:=
 fun C B hC hB kills code hc a w ⟨β,r⟩=>h C B hC hB kills code hc a w (r.shift src fz (by rw [hB];exact hok))
theorem SWP.of_bare {c:AC} (h:∀(C:Ctx) (B:Base),Ok L C→B.n0=n0→∀(kills:List (List Nat)) (code:Code),(∀p,code≠.scope p)→C.T.code N kills code=some c→∀(a:Act) (w:World),RSx C B N E H a w→code.wpIn B.fw 0 C.T.P (QX C B N Q) a w):SWP L n0 N c Q E H:=by
 intro C B hC hB kills code
 induction code with
 | scope p ih=>exact fun hc a w r=>wpIn_scope (fun _ _ _ h=>h.1) (ih hc a w r)
 | _=>exact fun hc a w r=>h C B hC hB kills _ (by intro p e;cases e) hc a w r
theorem code_skip {T:Tr} {kills:List (List Nat)} {code:Code} (hns:∀p,code≠.scope p) (h:T.code N kills code=some .skip):code=.skip∨∃l,code=.label l:=by
 cases code with
 | skip=>exact .inl rfl
 | label l=>exact .inr ⟨l,rfl⟩
 | scope p=>exact (hns p rfl).elim
 | _=>simp [Tr.code,Option.bind_eq_some_iff] at h
theorem SWP.skip (h:Q .normal E H):SWP L n0 N .skip Q E H:=SWP.of_bare fun C B hC hB kills code hns hc a w r=>by
 rcases code_skip hns hc with rfl|⟨l,rfl⟩
 ·exact wpIn_skip ⟨trivial,E,H,h,r⟩
 ·exact wpIn_label ⟨trivial,E,H,h,r⟩
theorem SWP.exit {id:Nat} (h:Q (.exit id) E H):SWP L n0 N (.exit id) Q E H:=SWP.of_bare fun C B hC hB kills code hns hc a w r=>by
 cases code with
 | exit id'=>
  simp only [Tr.code,Option.some.injEq] at hc
  injection hc with hc
  subst hc;exact wpIn_exit ⟨trivial,E,H,h,r⟩
 | scope p=>exact (hns p rfl).elim
 | _=>simp [Tr.code,Option.bind_eq_some_iff] at hc
theorem SWP.ret (h:Q .ret E H):SWP L n0 N .ret Q E H:=SWP.of_bare fun C B hC hB kills code hns hc a w r=>by
 cases code with
 | ret=>exact wpIn_ret ⟨trivial,E,H,h,r⟩
 | scope p=>exact (hns p rfl).elim
 | _=>simp [Tr.code,Option.bind_eq_some_iff] at hc
theorem Env.kill_sub {ks:List Nat} (t:Nat) (v:V) (h:(E.kill ks).get t=some v):E.get t=some v:=by
 rw [Env.get_kill] at h
 split at h
 ·cases h
 ·exact h
theorem SWP.ops {l:List AI} {ks:List Nat} (h:opsP L l (fun E H=>Q .normal (E.kill ks) H) E H):SWP L n0 N (.ops false l ks) Q E H:=SWP.of_bare fun C B hC hB kills code hns hc a w r=>by
 cases code with
 | region id ops draw=>
  simp only [Tr.code,Option.map_eq_some_iff] at hc
  obtain ⟨l',hl,he⟩:=hc
  injection he with e1 e2 e3
  subst e1;subst e2;subst e3
  exact wpIn_region_list (ops_wp hC (fun a' w' E' H' hk ⟨β,hr⟩=>⟨trivial,_,_,hk,β,hr.sub Env.kill_sub⟩) ops.toList 0 l' hl r h)
 | scope p=>exact (hns p rfl).elim
 | _=>simp [Tr.code,Option.bind_eq_some_iff] at hc
theorem SWP.draw {l:List AI} {ks:List Nat} (h:dopsP L l [] [] (fun E H=>Q .normal (E.kill ks) H) E H):SWP L n0 N (.ops true l ks) Q E H:=SWP.of_bare fun C B hC hB kills code hns hc a w r=>by
 cases code with
 | region id ops draw=>
  simp only [Tr.code,Option.map_eq_some_iff] at hc
  obtain ⟨l',hl,he⟩:=hc
  injection he with e1 e2 e3
  subst e1;subst e2;subst e3
  exact draw_wp hC hl r h (fun a' w' E' H' hk ⟨β,hr⟩=>⟨trivial,_,_,hk,β,hr.sub Env.kill_sub⟩)
 | scope p=>exact (hns p rfl).elim
 | _=>simp [Tr.code,Option.bind_eq_some_iff] at hc
theorem SWP.seq {x y:AC} (h:SWP L n0 N x (AX.then (SWP L n0 N y Q) Q) E H):SWP L n0 N (.seq x y) Q E H:=SWP.of_bare fun C B hC hB kills code hns hc a w r=>by
 cases code with
 | seq p q=>
  simp only [Tr.code,Option.bind_eq_some_iff,Option.map_eq_some_iff] at hc
  obtain ⟨x',hx,y',hy,he⟩:=hc
  injection he with e1 e2
  subst e1;subst e2
  refine wpIn_seq (Code.wpIn_mono (fun e a w ⟨g,E,H,h1,h2⟩=>?_) (h C B hC hB kills p hx a w r))
  cases e with
  | normal=>exact h1 C B hC hB kills q hy a w h2
  | _=>exact ⟨g,E,H,h1,h2⟩
 | scope p=>exact (hns p rfl).elim
 | _=>simp [Tr.code,Option.bind_eq_some_iff] at hc
theorem SWP.cond {c:AOpd} {x y:AC} {t:Bool} (ht:opval L.G E.get c=some (.bool t)) (h:SWP L n0 N (if t then x else y) Q E H):SWP L n0 N (.cond c x y) Q E H:=SWP.of_bare fun C B hC hB kills code hns hc a w r=>by
 cases code with
 | cond p x' y'=>
  simp only [Tr.code,Option.bind_eq_some_iff,Option.map_eq_some_iff] at hc
  obtain ⟨c',hc',x'',hx,y'',hy,he⟩:=hc
  injection he with e1 e2 e3
  subst e1;subst e2;subst e3
  obtain ⟨β,r'⟩:=r
  have hr:=r'.rs.opd hC p c' _ hc' ht
  generalize hq:a.eval p=q at hr
  cases hr with
  | bool=>
   refine wpIn_cond hq ?_
   cases t with
   | true=>exact h C B hC hB kills x' hx a w ⟨β,r'⟩
   | false=>exact h C B hC hB kills y' hy a w ⟨β,r'⟩
 | scope p=>exact (hns p rfl).elim
 | _=>simp [Tr.code,Option.bind_eq_some_iff] at hc
theorem SWP.block {id:Nat} {x:AC} (h:SWP L n0 N x (AX.inBlock id Q) E H):SWP L n0 N (.block id x) Q E H:=SWP.of_bare fun C B hC hB kills code hns hc a w r=>by
 cases code with
 | block id' p=>
  simp only [Tr.code,Option.map_eq_some_iff] at hc
  obtain ⟨x',hx,he⟩:=hc
  injection he with e1 e2
  subst e1;subst e2
  refine wpIn_block (Code.wpIn_mono (fun e a w ⟨g,E,H,h1,h2⟩=>?_) (h C B hC hB kills p hx a w r))
  cases e with
  | exit id=>
   simp only [AX.inBlock] at h1
   simp only [Exit.inBlock]
   by_cases c:id=id'
   ·rw [if_pos c] at h1 ⊢;exact ⟨trivial,E,H,h1,h2⟩
   ·rw [if_neg c] at h1 ⊢;exact ⟨trivial,E,H,h1,h2⟩
  | _=>exact ⟨g,E,H,h1,h2⟩
 | scope p=>exact (hns p rfl).elim
 | _=>simp [Tr.code,Option.bind_eq_some_iff] at hc
theorem least {p:Nat→Prop}:∀{n:Nat},p n→∃m,p m∧∀k,p k→m≤k:=by
 intro n
 induction n using Nat.strongRecOn with
 | _ n ih=>
  intro h
  by_cases hex:∃k,k < n∧p k
  ·obtain ⟨k,hk,hp⟩:=hex;exact ih k hk hp
  ·exact ⟨n,h,fun k hk=>Nat.le_of_not_lt fun hlt=>hex ⟨k,hlt,hk⟩⟩
theorem SWP.loop {x:AC} (I:Nat→Env→Heap→Prop) {m0:Nat} (h0:I m0 E H)
    (round:∀m E H,I m E H→SWP L n0 N x (AX.then (fun E' H'=>∃m',m' < m∧(I m' E' H'∨∃src fz,okSh n0 src=true∧I m' (E'.sh (sgOf H' src fz)) (H'.sh src fz))) Q) E H):SWP L n0 N (.loop x) Q E H:=SWP.of_bare fun C B hC hB kills code hns hc a w r=>by
 cases code with
 | loop p=>
  simp only [Tr.code,Option.map_eq_some_iff] at hc
  obtain ⟨x',hx,he⟩:=hc
  injection he with e1
  subst e1
  let J:Act→World→Nat→Prop:=fun a w m=>∃E H,I m E H∧RSx C B N E H a w
  refine wpIn_loop (fun a w=>∃m,J a w m) (fun a w=>@dite _ (∃m,J a w m) (Classical.propDecidable _) (fun h=>(least h.choose_spec).choose) (fun _=>0)) ⟨m0,E,H,h0,r⟩ (fun a w hJ=>?_)
  rw [dif_pos hJ]
  have hsp:=(least hJ.choose_spec).choose_spec
  generalize (least hJ.choose_spec).choose=m at hsp ⊢
  obtain ⟨⟨E1,H1,hI,hr⟩,_⟩:=hsp
  refine Code.wpIn_mono (fun e a' w' ⟨g,E',H',h1,h2⟩=>?_) (round m E1 H1 hI C B hC hB kills p hx a w hr)
  cases e with
  | normal=>
   obtain ⟨m',hm',h1⟩:=h1
   have hJ':J a' w' m':=by
    rcases h1 with hI'|⟨src,fz,hok,hI'⟩
    ·exact ⟨_,_,hI',h2⟩
    ·obtain ⟨β,r'⟩:=h2
     exact ⟨_,_,hI',r'.shift src fz (by rw [hB];exact hok)⟩
   refine ⟨⟨m',hJ'⟩,?_⟩
   rw [dif_pos ⟨m',hJ'⟩]
   have:=(least (Exists.choose_spec (⟨m',hJ'⟩:∃m,J a' w' m))).choose_spec.2 m' hJ'
   omega
  | _=>exact ⟨g,E',H',h1,h2⟩
 | scope p=>exact (hns p rfl).elim
 | _=>simp [Tr.code,Option.bind_eq_some_iff] at hc
end
def resV1 (E:Nat→Option V) (h:Nat→Option Blk):ARes→Option V
 | .t n=>E n
 | .cell n size leaf=>(E n).bind fun p=>(loadV (shG p.psz h) size leaf p).map (·.v)
def resVs (E:Nat→Option V) (h:Nat→Option Blk):List ARes→Option (List V)
 | []=>some []
 | r::l=>(resV1 E h r).bind fun v=>(resVs E h l).bind fun vs=>some (v::vs)
def resV (E:Nat→Option V) (h:Nat→Option Blk) (l:List ARes):Option V:=(resVs E h l).map fun vs=>match vs with|[v]=>v|vs=>.tup vs
def argE:List V→Nat→Env
 | [],_=>[]
 | v::r,i=>(i,v)::argE r (i+1)
theorem argE_get:∀(l:List V) (i t:Nat),(argE l i).get t=if i≤t then l[t - i]? else none
 | [],i,t=>by simp [argE,Env.get]
 | v::r,i,t=>by
  simp only [argE,Env.get]
  by_cases h:i=t
  ·subst h;simp
  ·have:(i == t)=false:=by simp [h]
   rw [this,cond_false,argE_get r (i+1) t]
   by_cases h2:i≤t
   ·rw [if_pos (by omega),if_pos h2,show t - i=t - (i+1)+1 by omega];simp
   ·rw [if_neg (by omega),if_neg h2]
section
variable {A:Nat→Prop} {C:Ctx} {w:World} {β:Nat→Option Nat} {h:Nat→Option Blk}
theorem loadV_at (hh:HeapR A C.N w β h) {t:TypeId} {k:Nat} {g:Bool} (hsz:C.T.size t=some k) (hag:C.T.isAgg t=some g) {p:V} {x:Value} (hp:Rel C.N w (Imm A w β h) β p x) {e:Eff} (he:loadV h k (!g) p=some e) :
    ∃ad y,x=.pointer (some ad)∧(loadVar t ad).run C.T.P w=.ok y w∧Rel C.N w (Imm A w β h) β e.v y:=by
 have key:∀(b o:Nat) (v:V),(∃y,(Instr.loadAt t (.pointer (some ⟨b,o,none⟩))).run C.T.P w=.ok y w∧Rel C.N w (Imm A w β h) β v y)→∃ad y,Value.pointer (some ⟨b,o,none⟩)=.pointer (some ad)∧(loadVar t ad).run C.T.P w=.ok y w∧Rel C.N w (Imm A w β h) β v y:=fun b o v ⟨y,h1,h2⟩=>by
  refine ⟨_,y,rfl,?_,h2⟩
  simpa only [Instr.loadAt,Instr.sureAddr,Sem.run_bind,Sem.run_pure,Result.andThen_ok] using h1
 cases hp with
 | ptr _ a size i o b hb=>
  unfold loadV at he
  cases hk:h a with
  | none=>simp only [hk] at he;cases he
  | some kk=>
   cases kk with
   | loop=>simp only [hk] at he;cases he
   | stop=>simp only [hk] at he;cases he
   | map=>simp only [hk] at he;cases he
   | iter=>simp only [hk] at he;cases he
   | siter=>simp only [hk] at he;cases he
   | junk=>simp only [hk] at he;cases he
   | arr size' rows=>
    simp only [hk] at he
    split at he
    ·rename_i hs
     subst hs
     simp only [Option.bind_eq_some_iff] at he
     obtain ⟨row,hrow,v,hv,he⟩:=he
     simp only [Option.some.injEq] at he
     subst he
     obtain ⟨b',h1,h2,h3⟩:=hh.at' a _ hk
     rw [hb] at h1;cases h1
     exact key _ _ _ (load_cells (w:=w) (β:=β) hsz hag (N:=C.N) hv b (i*size) (fun j x hj=>h3.cell hrow hj))
    ·cases he
 | iptr _ size rows i o b off ys hS hr hy hrel=>
  simp only [loadV,Option.bind_eq_some_iff] at he
  obtain ⟨row,hrow,v,hv,he⟩:=he
  simp only [Option.some.injEq] at he
  subst he
  exact key _ _ _ (load_cells (w:=w) (β:=β) hsz hag (N:=C.N) (S:=Imm A w β h) hv b (off+i*size) (fun j x hj=>⟨_,(hy i row j x hrow hj).1,(hy i row j x hrow hj).2,(hrel i row j x hrow hj).mono (fun _ h=>h) (fun _ _=>rfl) (fun _ _ h=>h) (fun _ _ h=>by cases h)⟩))
 | _=>simp [loadV] at he
theorem ress_run {tmps:Array Value} {E:Nat→Option V} (hh:HeapR A C.N w β h) (henv:∀t v,E t=some v→∃x,tmps[t]?=some x∧Rel C.N w (Imm A w β h) β v x):∀(rs:List ResultVar) (as:List ARes) (vs:List V),C.T.ress rs=some as→resVs E h as=some vs→
    ∃xs:List Value,(rs.mapM fun r=>(match r with|.tmp t=>pure (tmps.getD t undef)|.cell a t=>do loadVar t (←asAddr (tmps.getD a undef)):Sem Value)).run C.T.P w=.ok xs w∧xs.length=vs.length∧∀(i:Nat) (v:V) (x:Value),vs[i]?=some v→xs[i]?=some x→Rel C.N w (Imm A w β h) β v x
 | [],as,vs,h1,h2=>by
  simp [Tr.ress] at h1;subst h1
  simp [resVs] at h2;subst h2
  exact ⟨[],by simp [Sem.run_pure],rfl,fun i v x h=>by simp at h⟩
 | r::rs,as,vs,h1,h2=>by
  simp only [Tr.ress,Option.bind_eq_some_iff] at h1
  obtain ⟨a,ha,as',has,he⟩:=h1
  simp only [Option.some.injEq] at he;subst he
  simp only [resVs,Option.bind_eq_some_iff] at h2
  obtain ⟨v,hv,vs',hvs,he⟩:=h2
  simp only [Option.some.injEq] at he;subst he
  obtain ⟨xs,g1,g2,g3⟩:=ress_run hh henv rs as' vs' has hvs
  have hone:∃y,(match r with|.tmp t=>pure (tmps.getD t undef)|.cell a t=>do loadVar t (←asAddr (tmps.getD a undef)):Sem Value).run C.T.P w=.ok y w∧Rel C.N w (Imm A w β h) β v y:=by
   cases r with
   | tmp t=>
    simp [Tr.res] at ha;subst ha
    obtain ⟨x,hx,hr⟩:=henv t v hv
    refine ⟨x,?_,hr⟩
    simp only [Array.getD_eq_getD_getElem?,hx];rfl
   | cell t ty=>
    simp only [Tr.res,Option.bind_eq_some_iff,Option.map_eq_some_iff] at ha
    obtain ⟨n,hn,g,hg,rfl⟩:=ha
    simp only [resV1,Option.bind_eq_some_iff,Option.map_eq_some_iff] at hv
    obtain ⟨p,hp,e,he,rfl⟩:=hv
    obtain ⟨x,hx,hr⟩:=henv t p hp
    have him:Imm A w β (shG p.psz h)=Imm A w β h:=imm_sh (fun q=>shG_none)
    obtain ⟨ad,y,rfl,h3,h4⟩:=loadV_at (hh.shape p.psz) hn hg (by rw [him];exact hr) he
    rw [him] at h4
    refine ⟨y,?_,h4⟩
    simp only
    rw [Array.getD_eq_getD_getElem?,hx]
    simp only [Option.getD_some,asAddr,Sem.run_bind,Sem.run_pure,Result.andThen_ok,h3]
  obtain ⟨y,g4,g5⟩:=hone
  refine ⟨y::xs,?_,by simp [g2],fun i v' x' hv' hx'=>?_⟩
  ·rw [List.mapM_cons,Sem.run_bind,g4,Result.andThen_ok,Sem.run_bind,g1,Result.andThen_ok];rfl
  ·cases i with
   | zero=>simp at hv' hx';subst hv';subst hx';exact g5
   | succ i=>simp at hv' hx';exact g3 i v' x' hv' hx'
theorem results_rel {fn:Func} {tmps:Array Value} {E:Nat→Option V} (hh:HeapR A C.N w β h) (henv:∀t v,E t=some v→∃x,tmps[t]?=some x∧Rel C.N w (Imm A w β h) β v x) {as:List ARes} {v:V} (h1:C.T.ress fn.results.toList=some as) (h2:resV E h as=some v) :
    ∃x,(results fn tmps).run C.T.P w=.ok x w∧Rel C.N w (Imm A w β h) β v x:=by
 simp only [resV,Option.map_eq_some_iff] at h2
 obtain ⟨vs,hvs,rfl⟩:=h2
 obtain ⟨xs,g1,g2,g3⟩:=ress_run hh henv fn.results.toList as vs h1 hvs
 refine ⟨if h:xs.toArray.size=1 then xs.toArray[0] else .tuple xs.toArray,?_,?_⟩
 ·unfold results
  rw [Array.mapM_eq_mapM_toList]
  simp only [bind_map_left,Sem.run_bind]
  exact (congrArg (fun r=>Result.andThen r _) g1).trans rfl
 ·match vs,g2,g3 with
  | [v],g2,g3=>
   match xs,g2 with
   | [x],_=>exact g3 0 v x rfl rfl
  | [],g2,g3=>
   match xs,g2 with
   | [],_=>exact .tup _ [] _ rfl (fun i c y h=>by simp at h)
  | v1::v2::vs,g2,g3=>
   have:¬xs.toArray.size=1:=by simp [g2]
   rw [dif_neg this]
   exact .tup _ _ _ (by simpa using g2) (fun i c y hc hy=>g3 i c y hc (by simpa using hy))
end
def ResP (rs:List ARes) (n0:Nat) (Post:V→Heap→Prop) (E:Env) (H:Heap):Prop:=
 match resV E.get H.get rs with
 | some r=>Post r H∨∃src fz,okSh n0 src=true∧Post (r.ren (sgOf H src fz)) (H.sh src fz)
 | none=>False
def FnQ (F:AFunc) (n0:Nat) (Post:V→Heap→Prop):Exit→Env→Heap→Prop
 | .normal,E,H|.ret,E,H=>ResP F.results n0 Post E H
 | _,_,_=>False
theorem RS.unmark {C:Ctx} {B:Base} {N:Nat} {E:Nat→Option V} {h:Nat→Option Blk} {β:Nat→Option Nat} {fn:Func} {R:Ending→World→Prop}:∀(ds:List Deferred) (a:Act) (w:World),a.defers=ds→RS C B N E h β a w→
    (∀w',RS C B N E h β { a with defers:=[] } w'→∃v,(results fn a.tmps).run C.T.P w'=.ok v w'∧R (.returned v) w')→LeavesInM Fence.wide 0 C.T.P fn a.tmps R ds .returning w
 | [],a,w,hd,r,hf=>by
  have:({ a with defers:=[] }:Act)=a:=by cases a;simp at hd;simp [hd]
  exact hf w (by rw [this];exact r)
 | d::ds,a,w,hd,r,hf=>by
  obtain ⟨rs,h1,h2,h3⟩:=r.defers
  rw [hd] at h1
  cases rs with
  | nil=>simp at h1
  | cons r0 rs=>
   simp only [List.map_cons,List.cons.injEq] at h1
   obtain ⟨h4,h5⟩:=h1
   rw [List.nodup_cons] at h2
   obtain ⟨h6,h7⟩:=h3 r0 (by simp)
   refine ⟨by simp,.inl ⟨r0,_,h4,run_takeDeferred h7,?_⟩⟩
   have hX:∀b,b=r0→¬Live β h b∧∀c T f,w.heap[b]?≠some (.cells c T f):=fun b hb=>by
    subst hb
    exact ⟨r.heap.not_live h7,fun c T f e=>by rw [h7] at e;cases e⟩
   have r':RS C B N E h β { a with defers:=ds } (w.putObj r0 (.deferred none)):=by
    refine r.move (fun b=>b=r0) hX (fun b _ hb=>World.putObj_heap_other hb) (by simp) (fun b hb=>.inl (by rw [hb];exact h6)) (fun l rec hrd hl=>?_) rfl rfl rfl rfl ⟨rs,h5,h2.2,fun q hq=>⟨(h3 q (by simp [hq])).1,?_⟩⟩
    ·have:=(r.rnd l rec hrd).1
     rw [hl,h7] at this;cases this
    ·exact (World.putObj_heap_other (fun e=>h2.1 (by rw [←e];exact hq))).trans (h3 q (by simp [hq])).2
   exact RS.unmark ds { a with defers:=ds } _ rfl r' hf
theorem AFn.of_body {L:Lib} {k:Nat} {F:AFunc} {args:List V} {H:Heap} {Post:V→Heap→Prop} (hT:L.T k=some F) (hn:args.length=F.nargs) (h:SWP L H.length F.ntmps F.body (FnQ F H.length Post) (argE args 0) H):AFn L (.fn k) args H Post:=by
 intro C hC A w β vs hA hd hh hg ha fid hf
 obtain ⟨fn,hfn,hF⟩:=hC.fn k fid F hf hT
 unfold Tr.func at hF
 simp only [Option.bind_eq_some_iff] at hF
 obtain ⟨code,hcode,ac,hac,rs,hrs,hF⟩:=hF
 rw [Option.ite_none_right_eq_some] at hF
 obtain ⟨⟨hle,_⟩,hF⟩:=hF
 simp only [Option.some.injEq] at hF
 have e1:F.ntmps=fn.ntmps:=by rw [←hF]
 have e2:F.nargs=fn.params.size+fn.nfree:=by rw [←hF]
 have e3:F.results=rs:=by rw [←hF]
 have e4:F.body=ac:=by rw [←hF]
 refine (callsIn_wide (n:=0)).1 (callsIn_of_wp_marks hfn hcode trivial ?_)
 let B:Base:={ w0:=w,L0:=Live β H.get,β0:=β,n0:=H.length,A:=A,hA:=hA,rd:=none }
 have hargs:=ha.1
 have hinit:RSL C B F.ntmps (argE args 0) H β { tmps:=vs++Array.replicate (fn.ntmps - vs.size) undef,defers:=[] } w:=by
  refine ⟨⟨?_,MarksOk.nil _ _,fun t v hv=>?_,hh,Frm.refl _ _,fun b hb=>.inr hb,fun _ _=>rfl,hg,fun l rec h=>by cases h⟩,hd,Nat.le_refl _⟩
  ·simp only [Array.size_append,Array.size_replicate];omega
  ·rw [argE_get,if_pos (Nat.zero_le _),Nat.sub_zero] at hv
   have hlt:t < vs.size:=by rw [hargs];exact (List.getElem?_eq_some_iff.1 hv).1
   refine ⟨vs[t],?_,ha.2 t v _ hv (Array.getElem?_eq_getElem hlt)⟩
   rw [Array.getElem?_append_left hlt]
   exact Array.getElem?_eq_getElem hlt
 have hw:=h C B hC rfl F.kills code (by rw [e1,e4];exact hac) _ w ⟨β,hinit⟩
 let R:Ending→World→Prop:=fun e w'=>∃v r H' β',e=.returned v∧Post r H'∧H.length≤H'.length∧(∀a,H'.length≤a→β' a=none)∧(∀a,a < H.length→β' a=β a)∧HeapR A C.N w' β' H'.get∧Rel C.N w' (Imm A w' β' H'.get) β' r v∧
     (∀b,Live β' H'.get b→w.heap.size≤b∨Live β H.get b)∧Frm (Live β H.get) w w'
 have hend:∀(a:Act) (w':World) (E':Env) (H':Heap),ResP F.results H.length Post E' H'→RSx C B F.ntmps E' H' a w'→LeavesInM Fence.wide 0 C.T.P fn a.tmps R a.defers .returning w':=fun a w' E' H' hres ⟨β1,r0⟩=>by
  unfold ResP at hres
  split at hres
  ·rename_i v0 hv0
   refine RS.unmark a.defers a w' rfl r0.rs (fun w'' rs=>?_)
   have r:RSL C B F.ntmps E' H' β1 { a with defers:=[] } w'':=⟨rs,r0.dom,r0.n0⟩
   obtain ⟨x,hx,hrel⟩:=results_rel r.rs.heap r.rs.env (as:=F.results) (by rw [e3];exact hrs) hv0
   rcases hres with hpost|⟨src,fz,hok,hpost⟩
   ·exact ⟨x,hx,x,_,_,β1,rfl,hpost,r.n0,r.dom,fun q hq=>r.rs.keep q hq,r.rs.heap,hrel,r.rs.own,r.rs.frm⟩
   have hsh:∃β2,RSL C B F.ntmps (E'.sh (sgOf H' src fz)) (H'.sh src fz) β2 { a with defers:=[] } w''∧Rel C.N w'' (Imm A w'' β2 (H'.sh src fz).get) β2 (v0.ren (sgOf H' src fz)) x:=r.shift_rel src fz hok hrel
   obtain ⟨β2,r2,hrel2⟩:=hsh
   exact ⟨x,hx,x,_,_,β2,rfl,hpost,r2.n0,r2.dom,fun q hq=>r2.rs.keep q hq,r2.rs.heap,hrel2,r2.rs.own,r2.rs.frm⟩
  ·exact hres.elim
 refine Code.wpIn_mono (fun e a w' ⟨g,E',H',h1,h2⟩=>?_) hw
 cases e with
 | normal=>exact hend a w' E' H' h1 h2
 | ret=>exact hend a w' E' H' h1 h2
 | _=>exact h1.elim
end Go.Proofs.YtigdhgbkgfagiaaGreat
namespace Go.Proofs.YtigdhgbkgfagiaaGreat
theorem al_new (w:World) (o:Obj):(w.alloc o).heap[w.heap.size]?=some o:=by
 show (w.heap.push o)[w.heap.size]?=_
 simp
theorem al_old (w:World) (o:Obj) {k:Nat} (h:k < w.heap.size):(w.alloc o).heap[k]?=w.heap[k]?:=by
 show (w.heap.push o)[k]?=_
 rw [Array.getElem?_push,if_neg (by omega)]
theorem al_size (w:World) (o:Obj):(w.alloc o).heap.size=w.heap.size+1:=by
 show (w.heap.push o).size=_
 simp
theorem Heap.get_set (H:Heap) (n:Nat) (o:Option Blk) (hn:n < H.length) (a:Nat):Heap.get (H.set n o) a=if a=n then o else H.get a:=by
 unfold Heap.get
 rw [List.getElem?_set]
 by_cases h:n=a
 ·subst h;simp [hn]
 ·have:¬a=n:=fun e=>h e.symm
  simp [h,this]
theorem Heap.get_set_none (H:Heap) (n:Nat):Heap.get (H.set n none)=fun a=>if a=n then none else H.get a:=by
 funext a
 by_cases hn:n < H.length
 ·exact Heap.get_set H n none hn a
 ·rw [List.set_eq_of_length_le (by omega)]
  by_cases h:a=n
  ·subst h;simp [Heap.get,List.getElem?_eq_none (show H.length≤a by omega)]
  ·simp [h]
theorem Heap.get_snoc (H:Heap) (o:Option Blk) (a:Nat):Heap.get (H++[o]) a=if a=H.length then o else H.get a:=by
 unfold Heap.get
 rw [List.getElem?_append]
 by_cases h:a < H.length
 ·have:¬a=H.length:=by omega
  simp [h,this]
 ·by_cases h2:a=H.length
  ·subst h2;simp
  ·have h3:H[a]?=none:=List.getElem?_eq_none (by omega)
   have h4:([o]:List (Option Blk))[a - H.length]?=none:=List.getElem?_eq_none (by simp;omega)
   simp [h,h2,h4]
theorem run_fn {C:Ctx} {β:Nat→Option Nat} {k fid:Nat} {xs:Array Value} {w:World} {R:Ending→World→Prop} (hf:C.N.ν k=some fid) (h:RunAt C β (.fn k) xs w R):Calls C.T.P fid xs w R:=h fid hf
theorem callsIn_fw {P:Program} {f:FuncId} {args:Array Value} {w:World} {R:Ending→World→Prop} (r:Option Nat) (n:Nat) (h:Calls P f args w R):CallsIn (FW r) n P f args w R:=by
 have:=(callsIn_wide (n:=n)).2 h
 exact ⟨trivial,this.2⟩
theorem range_wp {P:Program} {r:Option Nat} {g:Operand} {ps:Array Tmp} {as bd:Code} {Q:Exit→Act→World→Prop} {a:Act} {w:World}
    (h:∀fn:FuncId,∃(l:Nat) (mark:List Deferred) (w1:World) (d:Deferred) (fid:FuncId) (args:Array Value) (R:Ending→World→Prop),(Instr.enterLoop fn a.tmps ps as bd r).run P w=.ok (l,mark) w1∧(resolve a.eval (rangeCall g l) 0).run P w1=.ok d w1∧
     (invoke d.target d.args).run P w1=.ok (.enter fid args) w1∧Calls P fid args w1 R∧∀e w',R e w'→rangePost (FW r) 0 P l Q { a with defers:=mark++a.defers } e w'):(Code.rangeFunc g ps as bd).wpIn (FW r) 0 P Q a w:=by
 refine wpIn_rangeFunc (fun fn _=>?_)
 obtain ⟨l,mark,w1,d,fid,args,R,h1,h2,h3,h4,h5⟩:=h fn
 exact ⟨l,mark,w1,d,w1,fid,args,w1,h1,h2,(fun _ _=>trivial),h3,(fun hd=>by cases hd),callsIn_fw r 0 (Calls.mono h4 h5)⟩
def RangeP (n:Nat) (Q:Exit→Env→Heap→Prop) (E:Env) (H':Heap):Prop:=
 match H'.get n with
 | some (.loop _ _ _ _ _)=>Q .normal E (H'.set n none)
 | some (.stop .ret)=>Q .ret E (H'.set n none)
 | some (.stop (.exit id))=>Q (.exit id) E (H'.set n none)
 | _=>False
section
variable {L:Lib} {n0 N:Nat} {Q:Exit→Env→Heap→Prop} {E:Env} {H:Heap}
theorem enter_loop {C:Ctx} {B:Base} {β:Nat→Option Nat} {a:Act} {w:World} {E:Nat→Option V} {h:Nat→Option Blk} (r:RS C B N E h β a w) (fn:FuncId) (ps:Array Tmp) (assign body:Code) :
    ∃(wm:World) (mark:List Deferred) (D:Nat),(Instr.enterLoop fn a.tmps ps assign body B.fw.round).run C.T.P w=.ok (wm.heap.size,mark) (wm.alloc (.loop { state:=.ready,pending:=none,fn,tmps:=a.tmps,params:=ps,assign,body,defers:=D }))∧
     RS C B N E h β { a with defers:=mark++a.defers } wm:=by
 cases hrd:B.rd with
 | some lr=>
  obtain ⟨l0,rec0⟩:=lr
  have e:B.fw.round=some l0:=by simp [Base.fw,FW,hrd]
  rw [e]
  exact ⟨w,[],_,run_enterLoop_inner (r.rnd l0 rec0 hrd).1 _ _ _ _ _,r⟩
 | none=>
  have e:B.fw.round=none:=by simp [Base.fw,FW,hrd]
  rw [e]
  refine ⟨w.alloc (.deferred (some [])),_,_,by rw [al_size];exact run_enterLoop_outer _ _ _ _ _,?_⟩
  obtain ⟨rs,h1,h2,h3⟩:=r.defers
  refine r.move (fun _=>False) (fun _ h=>h.elim) (fun b hb _=>al_old w _ hb) (by rw [al_size];omega) (fun _ h=>h.elim) (fun _ _ _ h=>h) rfl rfl rfl rfl ⟨w.heap.size::rs,by simp [h1],List.nodup_cons.2 ⟨fun hm=>?_,h2⟩,fun q hq=>?_⟩
  ·have:=(Array.getElem?_eq_some_iff.1 (h3 _ hm).2).1;omega
  ·rcases List.mem_cons.1 hq with rfl|hq
   ·exact ⟨r.frm.size,al_new w _⟩
   ·exact ⟨(h3 q hq).1,(al_old w _ (Array.getElem?_eq_some_iff.1 (h3 q hq).2).1).trans (h3 q hq).2⟩
theorem SWP.range {g:AOpd} {ps:List Nat} {ad body:AC} {k:Nat} {fs cs:List V} (hg:opval L.G E.get g=some (.fn k fs cs))
    (h:AFn L (.fn k) (fs++[.yld H.length]++cs) (H++[some (.loop N E ps ad body)]) (fun _ H'=>RangeP H.length Q E H')):SWP L n0 N (.range g ps ad body) Q E H:=SWP.of_bare fun C B hC hB kills code hns hc a w r=>by
 cases code with
 | rangeFunc g' ps' as bd=>
  simp only [Tr.code,Option.bind_eq_some_iff,Option.map_eq_some_iff] at hc
  obtain ⟨g'',hg',ad',had,bd',hbd,he⟩:=hc
  injection he with e1 e2 e3 e4
  subst e1;subst e3;subst e4
  obtain ⟨β,r⟩:=r
  have hfr:=r.rs.opd hC g' g'' _ hg' hg
  generalize hfe:a.eval g'=q at hfr
  cases hfr with
  | fn _ _ fid hf _ _ ys zs h1 h2 hy hz=>
  refine range_wp ?_
  intro fn
  obtain ⟨wm,mark,D,hrun,rm⟩:=enter_loop r.rs fn ps' as bd
  obtain ⟨rec,hrec⟩:∃rec:Loop,rec={ state:=.ready,pending:=none,fn,tmps:=a.tmps,params:=ps',assign:=as,body:=bd,defers:=D }:=⟨_,rfl⟩
  rw [←hrec] at hrun
  have hnone:β H.length=none:=r.dom _ (Nat.le_refl _)
  have hgn:H.get H.length=none:=by simp [Heap.get]
  obtain ⟨β1,hβ1,hh1,hr1,hl1,hf1⟩:=effOk_new (A:=B.A) (N:=C.N) (w:=wm) (β:=β) (h:=H.get) (n:=H.length) (e:={ v:=.yld H.length,new:=[.loop N E ps ad' bd'] }) (x:=.func (.yield wm.heap.size) #[] #[]) (w':=wm.alloc (.loop rec)) (o:=.loop rec) (k:=.loop N E ps ad' bd')
   rm.heap hnone hgn rfl rfl rfl rfl rfl rfl (fun β' S hβ hb hS=>by
    refine ⟨rec,al_new wm _,by rw [hrec],by rw [hrec],by rw [hrec];exact (C.codes _ _ _).2 ⟨kills,had⟩,by rw [hrec];exact (C.codes _ _ _).2 ⟨kills,hbd⟩,by rw [hrec];exact e2.symm ▸ rfl,by rw [hrec];exact rm.size,fun t v hv=>?_⟩
    obtain ⟨x,hx,hxr⟩:=rm.env t v hv
    refine ⟨x,by rw [hrec];exact hx,hxr.mono hS (fun b hb=>al_old wm _ hb.lt) (fun b m ⟨cells,T,fz,q1,q2⟩=>⟨cells,T,fz,?_,q2⟩) hβ⟩
    rw [al_old wm _ (Array.getElem?_eq_some_iff.1 q1).1];exact q1) (fun β' S hβ hb hS=>.yld _ _ _ hb)
  have hβl:β1 H.length=some wm.heap.size:=by cases hr1 with|yld _ _ _ hb=>exact hb
  have hheap:(Eff.heap { v:=.yld H.length,new:=[.loop N E ps ad' bd'] } H.length H.get)=Heap.get (H++[some (.loop N E ps ad' bd')]):=by
   funext q
   rw [Heap.get_snoc]
   unfold Eff.heap
   by_cases hq:q=H.length
   ·subst hq;simp
   ·rw [if_neg (by simp;omega),if_neg hq];rfl
  rw [hheap] at hh1 hr1 hl1
  have hsub:∀a b,β a=some b→β1 a=some b:=fun q b hq=>by
   rw [hβ1 q (fun hin=>by
    have:q=H.length:=by simp at hin;omega
    rw [this,hnone] at hq;cases hq)];exact hq
  have hkeep:∀q,q < B.n0→β1 q=β q:=fun q hq=>hβ1 q (fun hin=>by have:=r.n0;omega)
  have r1:=rm.step (dst:=none) (v:=none) (x:=undef) hsub hkeep hh1 hl1 hf1 (fun v' hv'=>by cases hv') (fun d hd=>by cases hd)
  have hstep:∀{v:V} {x:Value},Rel C.N w (Imm B.A w β H.get) β v x→True:=fun _=>trivial
  have hfr1:=r1.opd hC g' g'' (.fn k fs cs) hg' (by simpa using hg)
  have hev:(Act.put { tmps:=a.tmps,defers:=mark++a.defers } none undef).eval g'=a.eval g':=by
   cases g' <;> rfl
  rw [hev,hfe] at hfr1
  have hargs:RArgs C (wm.alloc (.loop rec)) (Imm B.A (wm.alloc (.loop rec)) β1 (Heap.get (H++[some (.loop N E ps ad' bd')]))) β1 (fs++[.yld H.length]++cs) (ys++#[.func (.yield wm.heap.size) #[] #[]]++zs):=by
   cases hfr1 with
   | fn _ _ fid' hf' _ _ _ _ g1 g2 gy gz=>
    refine ⟨by simp [g1,g2];omega,fun i v y hv hx=>?_⟩
    rw [List.getElem?_append] at hv
    rw [Array.getElem?_append] at hx
    simp only [List.length_append,Array.size_append,List.length_cons,List.length_nil,List.size_toArray] at hv hx
    by_cases c1:i < fs.length+(0+1)
    ·rw [if_pos c1] at hv
     rw [if_pos (by omega)] at hx
     rw [List.getElem?_append] at hv
     rw [Array.getElem?_append] at hx
     by_cases c2:i < fs.length
     ·rw [if_pos c2] at hv
      rw [if_pos (by omega)] at hx
      exact gy i v y hv hx
     ·rw [if_neg c2] at hv
      rw [if_neg (by omega)] at hx
      have e0:i - fs.length=0:=by omega
      have e0':i - ys.size=0:=by omega
      rw [e0] at hv
      rw [e0'] at hx
      simp at hv hx
      rw [←hv,←hx]
      exact hr1
    ·rw [if_neg c1] at hv
     rw [if_neg (by omega)] at hx
     rw [show i - (ys.size+(0+1))=i - (fs.length+(0+1)) by omega] at hx
     exact gz _ v y hv hx
  have hdom1:∀i,(H++[some (Blk.loop N E ps ad' bd')]).length≤i→β1 i=none:=fun i hi=>by
   rw [List.length_append,List.length_singleton] at hi
   rw [hβ1 i (fun hin=>by simp at hin;omega)]
   exact r.dom i (by omega)
  have hcall0:RunAt C β1 (.fn k) (ys++#[.func (.yield wm.heap.size) #[] #[]]++zs) (wm.alloc (.loop rec)) _:=h C hC B.A (wm.alloc (.loop rec)) β1 _ (fun b hb=>B.hA b (by
   rcases hb with hb|hb
   ·left;exact Nat.le_trans r1.frm.size hb
   ·exact r1.own b hb)) hdom1 hh1 r1.glob hargs
  have hcall:=run_fn hf hcall0
  clear hcall0 hargs hfr1
  have e1:(resolve a.eval (rangeCall g' wm.heap.size) 0).run C.T.P (wm.alloc (.loop rec))=.ok { target:=.fn (.func fid) zs,args:=ys++#[.func (.yield wm.heap.size) #[] #[]] } (wm.alloc (.loop rec)):=by
   have:(resolve a.eval (rangeCall g' wm.heap.size) 0)=pure { target:=.fn (.func fid) zs,args:=ys++#[.func (.yield wm.heap.size) #[] #[]] }:=by
    unfold resolve;simp only [hfe];simp [Deferred.ofValue,Act.eval]
   rw [this];rfl
  refine ⟨wm.heap.size,mark,wm.alloc (.loop rec),{ target:=.fn (.func fid) zs,args:=ys++#[.func (.yield wm.heap.size) #[] #[]] },fid,?_⟩
  refine ⟨ys++#[.func (.yield wm.heap.size) #[] #[]]++zs,?_⟩
  refine ⟨_,hrun,e1,?_,hcall,fun e w' he=>?_⟩
  ·simp only [invoke]
   exact run_callFunc hC hf _ _
  ·obtain ⟨v,rr,H',β',rfl,hp,g1,g2,g3,g4,g5,g6,g7⟩:=he
   rw [List.length_append,List.length_singleton] at g1 g3
   have hβ':β' H.length=some wm.heap.size:=by rw [g3 _ (by omega)];exact hβl
   have r2:=r1.step (dst:=none) (v:=none) (x:=undef) (β':=β') (h':=H'.get) (fun q b hq=>by
    by_cases hlt:q < H.length+1
    ·rw [g3 q hlt];exact hq
    ·rw [hdom1 q (by rw [List.length_append,List.length_singleton];omega)] at hq;cases hq) (fun q hq=>g3 q (by have:=r.n0;omega)) g4 g6 g7 (fun v' hv'=>by cases hv') (fun d hd=>by cases hd)
   have r3:=r2.forget H.length
   rw [←Heap.get_set_none] at r3
   have hlen:H.length < H'.length:=by omega
   have key:∀(rec':Loop),w'.heap[wm.heap.size]?=some (.loop rec')→H'.get H.length≠none→
       RSx C B N E (H'.set H.length none) { a with defers:=mark++a.defers } (w'.putObj wm.heap.size (.loop { rec' with state:=.exhausted })):=fun rec' hrec' hne=>by
    have hnl:¬Live β' (Heap.get (H'.set H.length none)) wm.heap.size:=fun ⟨q,h1,h2⟩=>by
     rw [Heap.get_set _ _ _ hlen] at h1
     by_cases e:q=H.length
     ·simp [e] at h1
     ·simp only [e,if_false] at h1
      exact e (g4.inj q H.length _ h1 hne h2 hβ')
    have hown:B.w0.heap.size≤wm.heap.size:=rm.frm.size
    have r4:=r3.move (w':=w'.putObj wm.heap.size (.loop { rec' with state:=.exhausted })) (fun b=>b=wm.heap.size) (fun b hb=>by
     subst hb;exact ⟨hnl,fun c T f e=>by rw [hrec'] at e;cases e⟩) (fun b _ hb=>World.putObj_heap_other hb) (by simp) (fun b hb=>.inl (by rw [hb];exact hown)) (fun l rec0 hrd hl=>?_) rfl rfl rfl (a':={ a with defers:=mark++a.defers }) rfl ?_
    ·refine ⟨β',?_,fun i hi=>g2 i (by simpa using hi),by have:=r.n0;simp;omega⟩
     exact ⟨r4.size,r4.defers,fun t v hv=>r4.env t v (by simpa using hv),r4.heap,r4.frm,r4.own,r4.keep,r4.glob,r4.rnd⟩
    ·obtain ⟨h1,h2⟩:=rm.rnd l rec0 hrd
     have:=(Array.getElem?_eq_some_iff.1 h1).1;omega
    ·obtain ⟨rs,q1,q2,q3⟩:=r3.defers
     refine ⟨rs,q1,q2,fun q hq=>⟨(q3 q hq).1,?_⟩⟩
     rw [World.putObj_heap_other (fun e=>by have:=(q3 q hq).2;rw [e,hrec'] at this;cases this)]
     exact (q3 q hq).2
   unfold RangeP at hp
   split at hp
   ·rename_i nt' E' ps'' ad'' bd'' hk
    obtain ⟨b,q1,q2,q3⟩:=g4.at' _ _ hk
    rw [hβ'] at q1;cases q1
    obtain ⟨rec',p1,p2,p3,_⟩:=q3
    exact ⟨none,_,(run_endLoop (P:=C.T.P) p1 (by rw [p2];simp)).trans (by rw [p3]),trivial,_,_,hp,key rec' p1 (by rw [hk];simp)⟩
   ·rename_i hk
    obtain ⟨b,q1,q2,q3⟩:=g4.at' _ _ hk
    rw [hβ'] at q1;cases q1
    obtain ⟨rec',p1,p2,c,p3,rfl⟩:=q3
    exact ⟨some .ret,_,(run_endLoop (P:=C.T.P) p1 (by rw [p2];simp)).trans (by rw [p3]),wpIn_ret ⟨trivial,_,_,hp,key rec' p1 (by rw [hk];simp)⟩⟩
   ·rename_i id hk
    obtain ⟨b,q1,q2,q3⟩:=g4.at' _ _ hk
    rw [hβ'] at q1;cases q1
    obtain ⟨rec',p1,p2,c,p3,rfl⟩:=q3
    exact ⟨some (.exit id),_,(run_endLoop (P:=C.T.P) p1 (by rw [p2];simp)).trans (by rw [p3]),wpIn_exit ⟨trivial,_,_,hp,key rec' p1 (by rw [hk];simp)⟩⟩
   ·exact hp.elim
 | scope p=>exact (hns p rfl).elim
 | _=>simp [Tr.code,Option.bind_eq_some_iff] at hc
end
def RoundQ (a nt:Nat) (E:Env) (ps:List Nat) (ad body:AC) (Post:V→Heap→Prop):Exit→Env→Heap→Prop
 | .normal,_,H=>H.get a=none∧Post (.bool true) (H.set a (some (.loop nt E ps ad body)))
 | .ret,_,H=>H.get a=none∧Post (.bool false) (H.set a (some (.stop .ret)))
 | .exit id,_,H=>H.get a=none∧Post (.bool false) (H.set a (some (.stop (.exit id))))
 | _,_,_=>False
def RoundA (L:Lib) (n0 nt:Nat) (body:AC) (Q:Exit→Env→Heap→Prop):Exit→Env→Heap→Prop
 | .normal,E,H=>SWP L n0 nt body Q E H
 | _,_,_=>False
end Go.Proofs.YtigdhgbkgfagiaaGreat
