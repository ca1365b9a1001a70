/- AL: regions that draw their order, where the functions called are functions of values. · AL: the equations for regions whose calls are of functions of values (printed by a program from those for the others). · AL: walking code by its places: no text of the code is needed. · Steps, the next thing to show being worked out from the code. · AL: what walks need: lists of things as slices, wrapping, ends of rounds. -/
import Derived.Test.YtigdhgbkgfagiaaGreatVM0
import Derived.Test.YtigdhgbkgfagiaaGreatVA3
set_option linter.unusedVariables false
namespace Go.Proofs.YtigdhgbkgfagiaaGreat
def MFn (L:Lib) (k:Nat) (vs:List V) (r:V) (h':Heap):Prop:=V.closeds vs=true∧AFn L (.fn k) vs [] (fun r' H'=>r'=r∧H'=h')
def upσ (n i:Nat):Sg:=.to (n+i)
theorem outσ_nil (n:Nat):outσ n []=upσ n:=by
 funext i
 unfold outσ upσ
 simp
def stepV (mk:List Nat) (L:Lib) (i:AI) (K:Env→Heap→Prop) (E:Env) (H:Heap):Prop:=
 match i.goes E.get with
 | some false=>K (E.put i.dst (.tup [])) H
 | some true=>
  match i.op with
  | .call (.fn k) args=>
   match mk.contains k with
   | false=>∃vs r,evals (opval L.G E.get) args=some vs∧VFn L k vs r∧K (E.put i.dst r) H
   | true=>∃vs r h',evals (opval L.G E.get) args=some vs∧MFn L k vs r h'∧K (E.put i.dst (r.ren (upσ H.length))) (H++h'.map (Option.map (Blk.ren (upσ H.length))))
  | .call _ _=>False
  | op=>match op.exec H.length H.get (opval L.G E.get) with|some e=>(e.upd.all fun p=>Nat.blt p.1 H.length)=true∧K (E.put i.dst e.v) (H.app e)|none=>False
 | none=>False
def opsV (mk:List Nat) (L:Lib):List AI→(Env→Heap→Prop)→Env→Heap→Prop
 | [],K,E,H=>K E H
 | i::l,K,E,H=>stepV mk L i (opsV mk L l K) E H
def AOp.kind (mk:List Nat):AOp→Nat
 | .mov _|.pick _ _ _|.bin _ _ _|.un _ _|.iaa _ _ _ _|.idx _ _ _ _ _|.min _|.max _|.fa _ _|.ia _ _ _|.len _|.slen _|.ext _ _|.beq _ _ _|.conv _ _|.chr _ _|.fld _ _ _ _|.isnil _ _ _|.slice _ _ _ _ _|.substr _ _ _|.build _ _|.mkfn _ _ _|.mkiface _ _|.cap _|.same _|.nilchk _|.acmp _ _ _ _|.xfn _ _ _=>0
 | .call (.fn k) _=>if mk.contains k then 2 else 0
 | .load _ _ _|.mget _ _ _ _ _|.mlen _=>1
 | .alloc _|.box _|.mkslice _ _ _ _ _|.bslice _ _ _ _=>2
 | _=>3
structure SK where
 dst:Option Nat
 looks:List Nat
 kind:Nat
def kindsOk (kr ks:Nat):Bool:=kr == 0||ks == 0||(kr == 1&&ks == 1)||(kr == 2&&(ks == 1||ks == 2))
def apartK (s r:SK):Bool:=
 ((match s.dst with|some d=>!r.looks.contains d&&(match r.dst with|some d'=>!(d == d')|none=>true)|none=>true) &&
 (match r.dst with|some d=>!s.looks.contains d|none=>true))&&kindsOk r.kind s.kind
def indK (m:Nat) (r:SK):Nat→List SK→Bool
 | _,[]=>true
 | i,s::l=>(m.testBit i||apartK s r)&&indK m r (i+1) l
def AI.sk (mk:List Nat) (i:AI):SK:=⟨i.dst,i.looks,i.op.kind mk⟩
def safeV (mk:List Nat):List AI→List SK→List Nat→Bool
 | [],_,_=>true
 | i::l,ss,ms=>indK (ancM ms i.anc) (i.sk mk) 0 ss&&safeV mk l (ss++[i.sk mk]) (ms++[ancM ms i.anc])
structure MatK (n:Nat) (r:Rec) (s:SK):Prop where
 dst:r.dst=s.dst
 looks:r.looks=s.looks
 k0:s.kind=0→r.need=[]∧r.eff=[]
 k1:s.kind=1→r.eff=[]∧∀a∈r.need,a < r.slot
 k2:s.kind=2→r.need=[]∧∀p∈r.eff,r.slot≤p.1∧p.1 < r.slot+r.k
 n:r.slot+r.k≤n
theorem MatK.mono {n m:Nat} {r:Rec} {s:SK} (h:MatK n r s) (hm:n≤m):MatK m r s:=⟨h.dst,h.looks,h.k0,h.k1,h.k2,Nat.le_trans h.n hm⟩
def MatsK (n:Nat):List Rec→List SK→Prop
 | [],[]=>True
 | r::rs,s::ss=>MatK n r s∧MatsK n rs ss
 | _,_=>False
theorem MatsK.mono {n m:Nat} (hm:n≤m):∀{rs:List Rec} {ss:List SK},MatsK n rs ss→MatsK m rs ss
 | [],[],h=>trivial
 | r::rs,s::ss,⟨h1,h2⟩=>⟨h1.mono hm,h2.mono hm⟩
 | [],_::_,h=>h.elim
 | _::_,[],h=>h.elim
theorem MatsK.snoc {n:Nat}:∀{rs:List Rec} {ss:List SK} {r:Rec} {s:SK},MatsK n rs ss→MatK n r s→MatsK n (rs++[r]) (ss++[s])
 | [],[],r,s,_,h=>⟨h,trivial⟩
 | r::rs,s::ss,_,_,⟨h1,h2⟩,h=>⟨h1,h2.snoc h⟩
 | [],_::_,_,_,h,_=>h.elim
 | _::_,[],_,_,h,_=>h.elim
theorem apartK_ok {n m:Nat} {q r:Rec} {s t:SK} (hq:MatK n q s) (hr:MatK m r t) (hn:n≤r.slot) (h:apartK s t=true):apartB q r=true:=by
 unfold apartK at h
 simp only [Bool.and_eq_true] at h
 obtain ⟨⟨h1,h2⟩,h3⟩:=h
 have key:((q.keys.all fun a=>!r.need.contains a&&!r.keys.contains a)&&(r.keys.all fun a=>!q.need.contains a))=true:=by
  have hqn:=hq.n
  unfold kindsOk at h3
  simp only [Bool.or_eq_true,Bool.and_eq_true,beq_iff_eq] at h3
  rw [Bool.and_eq_true,List.all_eq_true,List.all_eq_true]
  unfold Rec.keys
  rcases h3 with ((h3|h3)|⟨h3,h4⟩)|⟨h3,h4⟩
  ·obtain ⟨e1,e2⟩:=hr.k0 h3
   rw [e1,e2]
   exact ⟨fun a _=>rfl,fun a ha=>by simp at ha⟩
  ·obtain ⟨e1,e2⟩:=hq.k0 h3
   rw [e1,e2]
   exact ⟨fun a ha=>by simp at ha,fun a _=>rfl⟩
  ·rw [(hr.k1 h3).1,(hq.k1 h4).1]
   exact ⟨fun a ha=>by simp at ha,fun a ha=>by simp at ha⟩
  ·obtain ⟨e1,e2⟩:=hr.k2 h3
   rw [e1]
   rcases h4 with h4|h4
   ·obtain ⟨f1,f2⟩:=hq.k1 h4
    rw [f1]
    refine ⟨fun a ha=>by simp at ha,fun a ha=>?_⟩
    obtain ⟨p,hp,rfl⟩:=List.mem_map.1 ha
    have:=e2 p hp
    rw [Bool.not_eq_true',List.contains_eq_mem,decide_eq_false_iff_not]
    intro hc
    have:=f2 _ hc
    omega
   ·obtain ⟨f1,f2⟩:=hq.k2 h4
    rw [f1]
    refine ⟨fun a ha=>?_,fun a _=>rfl⟩
    obtain ⟨p,hp,rfl⟩:=List.mem_map.1 ha
    have h5:=f2 p hp
    rw [Bool.and_eq_true]
    refine ⟨rfl,?_⟩
    rw [Bool.not_eq_true',List.contains_eq_mem,decide_eq_false_iff_not]
    intro hc
    obtain ⟨p',hp',e⟩:=List.mem_map.1 hc
    have:=e2 p' hp'
    omega
 unfold apartB
 rw [hq.dst,hr.dst,hq.looks,hr.looks]
 rw [Bool.and_assoc,Bool.and_eq_true,Bool.and_eq_true]
 exact ⟨⟨h1,h2⟩,key⟩
theorem indK_ok {n m:Nat} {r:Rec} {s:SK} {a:Nat} (hr:MatK m r s) (hn:n≤r.slot):∀{rs:List Rec} {ss:List SK} {i:Nat},MatsK n rs ss→indK a s i ss=true→indB a r i rs=true
 | [],[],i,_,_=>rfl
 | q::rs,t::ss,i,⟨h1,h2⟩,h=>by
  unfold indK at h
  unfold indB
  rw [Bool.and_eq_true] at h ⊢
  refine ⟨?_,indK_ok hr hn h2 h.2⟩
  rw [Bool.or_eq_true] at h ⊢
  exact h.1.imp id (fun h=>apartK_ok h1 hr hn h)
 | [],_::_,_,h,_=>h.elim
 | _::_,[],_,h,_=>h.elim
theorem get_lt {H:Heap} {a:Nat} {b:Blk} (h:H.get a=some b):a < H.length:=by
 unfold Heap.get at h
 by_cases hl:a < H.length
 ·exact hl
 ·rw [List.getElem?_eq_none (by omega)] at h;cases h
theorem shG_lt {H:Heap} {a size:Nat} {b:Blk} (h:shG size H.get a=some b):a < H.length:=by
 unfold shG at h
 obtain ⟨k,hk,_⟩:=Option.map_eq_some_iff.1 h
 exact get_lt hk
theorem mapOf_lt {H:Heap} {sz:Nat} {m:V} {es:List (V×V)} {nd:List Nat} (h:mapOf (shG sz H.get) m=some (es,nd)):∀a∈nd,a < H.length:=by
 unfold mapOf at h
 split at h
 ·cases h;simp
 ·split at h
  ·rename_i hg
   cases h
   intro a ha
   rw [List.mem_singleton] at ha
   subst ha
   exact shG_lt hg
  ·cases h
 ·cases h
theorem exec_kind {mk:List Nat} {o:AOp} {H:Heap} {ρ:AOpd→Option V} {e:Eff} (he:o.exec H.length H.get ρ=some e):(o.kind mk=0→e.need=[]∧e.upd=[]∧e.new=[])∧(o.kind mk=1→(e.upd=[]∧e.new=[])∧∀a∈e.need,a < H.length)∧(o.kind mk=2→e.need=[]∧e.upd=[]):=by
 have Z:∀{o:Option Eff},(∀e,o=some e→e.need=[]∧e.upd=[]∧e.new=[])→o=some e→e.need=[]∧e.upd=[]∧e.new=[]:=fun h h2=>h e h2
 have B:∀{α:Type} {o:Option α} {f:α→Option Eff} {P:Eff→Prop},(∀x e,f x=some e→P e)→∀e,o.bind f=some e→P e:=fun h e h2=>by
  obtain ⟨x,_,h3⟩:=Option.bind_eq_some_iff.1 h2
  exact h x e h3
 refine ⟨fun hk=>?_,fun hk=>?_,fun hk=>?_⟩
 ·revert he
  refine Z ?_
  cases o <;> first|(exfalso;simp [AOp.kind] at hk;done)|skip
  all_goals first
   | (intro e he;cases he;done)
   | (unfold AOp.exec AOp.exec0
      repeat' (first|(intro e he;cases he;done)|(intro e he;cases he;exact ⟨rfl,rfl,rfl⟩)|refine B fun x=>?_|split))
 ·revert he
  cases o <;> first|(exfalso;simp [AOp.kind] at hk;done)|skip
  ·rename_i k leaf p
   unfold AOp.exec AOp.exec0
   intro he
   obtain ⟨v,hv,he⟩:=Option.bind_eq_some_iff.1 he
   unfold loadV at he
   split at he
   ·split at he
    ·rename_i hg
     split at he
     ·obtain ⟨row,_,he⟩:=Option.bind_eq_some_iff.1 he
      obtain ⟨w,_,he⟩:=Option.bind_eq_some_iff.1 he
      cases he
      exact ⟨⟨rfl,rfl⟩,fun a ha=>by rw [List.mem_singleton] at ha;subst ha;exact shG_lt hg⟩
     ·cases he
    ·cases he
   ·obtain ⟨row,_,he⟩:=Option.bind_eq_some_iff.1 he
    obtain ⟨w,_,he⟩:=Option.bind_eq_some_iff.1 he
    cases he
    exact ⟨⟨rfl,rfl⟩,fun a ha=>by simp at ha⟩
   ·cases he
  ·rename_i kc z ok m k
   unfold AOp.exec AOp.exec0
   intro he
   obtain ⟨v,hv,he⟩:=Option.bind_eq_some_iff.1 he
   obtain ⟨w,hw,he⟩:=Option.bind_eq_some_iff.1 he
   unfold mgetV at he
   split at he
   ·obtain ⟨⟨es,nd⟩,hm,he⟩:=Option.bind_eq_some_iff.1 he
    obtain ⟨r,_,he⟩:=Option.bind_eq_some_iff.1 he
    cases he
    exact ⟨⟨rfl,rfl⟩,mapOf_lt hm⟩
   ·cases he
  ·rename_i m
   unfold AOp.exec AOp.exec0
   intro he
   obtain ⟨v,hv,he⟩:=Option.bind_eq_some_iff.1 he
   obtain ⟨⟨es,nd⟩,hm,he⟩:=Option.bind_eq_some_iff.1 he
   cases he
   exact ⟨⟨rfl,rfl⟩,mapOf_lt hm⟩
  ·intro he;cases he
 ·revert he
  have Z2:∀{o:Option Eff},(∀e,o=some e→e.need=[]∧e.upd=[])→o=some e→e.need=[]∧e.upd=[]:=fun h h2=>h e h2
  refine Z2 ?_
  cases o <;> first|(exfalso;simp [AOp.kind] at hk;done)|skip
  all_goals first
   | (intro e he;cases he;done)
   | (unfold AOp.exec AOp.exec0
      repeat' (first|(intro e he;cases he;done)|(intro e he;cases he;exact ⟨rfl,rfl⟩)|refine B fun x=>?_|split))
theorem effN_mem {σ:Nat→Sg} {p:Nat×Option Blk}:∀{l:List (Option Blk)} {n:Nat},p∈effN σ l n→n≤p.1∧p.1 < n+l.length
 | [],n,h=>by simp [effN] at h
 | b::l,n,h=>by
  rw [effN,List.mem_cons] at h
  rcases h with rfl|h
  ·exact ⟨Nat.le_refl _,by show n < n+(l.length+1);omega⟩
  ·have:=effN_mem h
   rw [List.length_cons]
   omega
theorem dstepV {mk:List Nat} {L:Lib} {i:AI} {K:Env→Heap→Prop} {K':Rec→Env→Heap→Prop} {E:Env} {H:Heap} (h:stepV mk L i K E H) (hk:∀r E' H',MatK H'.length r (i.sk mk)→H.length≤r.slot→H.length≤H'.length→K E' H'→K' r E' H'):dstepP L i K' E H:=by
 unfold stepV at h
 unfold dstepP
 cases hg:i.goes E.get with
 | none=>rw [hg] at h;exact h.elim
 | some b=>
  rw [hg] at h
  cases b with
  | false=>exact hk _ _ _ ⟨rfl,rfl,fun _=>⟨rfl,rfl⟩,fun _=>⟨rfl,fun a ha=>by simp at ha⟩,fun _=>⟨rfl,fun p hp=>by simp at hp⟩,Nat.le_refl _⟩ (Nat.le_refl _) (Nat.le_refl _) h
  | true=>
   dsimp only at h ⊢
   split at h
   ·rename_i k args hop
    cases hmk:mk.contains k with
    | false=>
     rw [hmk] at h
     obtain ⟨vs,r,h1,⟨hv1,hv2,hv3⟩,h2⟩:=h
     rw [hop]
     dsimp only
     unfold callee
     rw [h1]
     show FnD L (.fn k) vs H _
     have e1:vs.map (V.ren (sgOf H ([].map some) []))=vs:=by rw [←V.rens_map];exact V.rens_closed _ hv1
     refine ⟨[],[],[],r,[],.fn k,rfl,rfl,rfl,?_,rfl,Nat.le_refl _,fun i hi=>by simp at hi,?_⟩
     ·rw [e1];exact hv3
     ·rw [V.ren_closed _ hv2]
      have e2:H.back [] []=H:=by simp [Heap.back,Heap.upds]
      rw [e2]
      refine hk _ _ _ ⟨rfl,rfl,fun _=>⟨rfl,rfl⟩,fun _=>⟨rfl,fun a ha=>by simp at ha⟩,fun _=>⟨rfl,fun p hp=>?_⟩,Nat.le_refl _⟩ (Nat.le_refl _) (Nat.le_refl _) h2
      cases hp
    | true=>
     rw [hmk] at h
     obtain ⟨vs,r,h',h1,⟨hv1,hv3⟩,h2⟩:=h
     have hkd:i.op.kind mk=2:=by rw [hop];show (if mk.contains k then 2 else 0)=2;rw [hmk];rfl
     rw [hop]
     dsimp only
     unfold callee
     rw [h1]
     show FnD L (.fn k) vs H _
     have e1:vs.map (V.ren (sgOf H ([].map some) []))=vs:=by rw [←V.rens_map];exact V.rens_closed _ hv1
     refine ⟨[],[],[],r,h',.fn k,rfl,rfl,rfl,?_,rfl,Nat.zero_le _,fun i hi=>by simp at hi,?_⟩
     ·rw [e1];exact hv3
     ·rw [outσ_nil]
      have e2:H.back [] h'=H++h'.map (Option.map (Blk.ren (upσ H.length))):=by simp [Heap.back,Heap.upds,outσ_nil]
      rw [e2]
      refine hk _ _ _ ⟨rfl,rfl,fun hq=>?_,fun hq=>?_,fun _=>⟨rfl,fun p hp=>?_⟩,?_⟩ (Nat.le_refl _) (by simp) h2
      ·rw [show (i.sk mk).kind=2 from hkd] at hq;cases hq
      ·rw [show (i.sk mk).kind=2 from hkd] at hq;cases hq
      ·have hp':p∈effB H.length [] [] h':=hp
       unfold effB at hp'
       rw [effO,List.append_nil] at hp'
       exact effN_mem hp'
      ·show H.length+(h'.length - 0)≤(H++h'.map (Option.map (Blk.ren (upσ H.length)))).length
       simp
   ·exact h.elim
   ·rename_i hn1 hn2
    split at h
    ·rename_i e he
     cases hop:i.op with
     | call c args=>
      cases c with
      | fn k=>exact absurd hop (hn1 k args)
      | _=>exact absurd hop (hn2 _ _)
     | _=>
      obtain ⟨g0,g1,g2⟩:=exec_kind (mk:=mk) he
      rw [hop] at he
      dsimp only
      rw [he]
      refine ⟨h.1,hk _ _ _ ⟨rfl,rfl,fun hq=>?_,fun hq=>?_,fun hq=>?_,?_⟩ (Nat.le_refl _) (by rw [Heap.app_length];omega) h.2⟩
      ·obtain ⟨f1,f2,f3⟩:=g0 hq
       exact ⟨f1,by show e.all H.length=[];unfold Eff.all;rw [f2,f3];rfl⟩
      ·obtain ⟨⟨f2,f3⟩,f1⟩:=g1 hq
       exact ⟨by show e.all H.length=[];unfold Eff.all;rw [f2,f3];rfl,f1⟩
      ·obtain ⟨f1,f2⟩:=g2 hq
       refine ⟨f1,fun p hp=>?_⟩
       have hp':p∈e.all H.length:=hp
       unfold Eff.all at hp'
       rw [f2,List.append_nil] at hp'
       obtain ⟨q,hq,rfl⟩:=List.mem_map.1 hp'
       have:=(List.mem_zipIdx hq)
       constructor
       ·show H.length≤H.length+q.2
        omega
       ·show H.length+q.2 < H.length+e.new.length
        omega
      ·show H.length+e.new.length≤(H.app e).length
       rw [Heap.app_length];exact Nat.le_refl _
    ·exact h.elim
theorem dopsV {mk:List Nat} {L:Lib} {K:Env→Heap→Prop}:∀(l:List AI) {rs:List Rec} {ss:List SK} {ms:List Nat} {E:Env} {H:Heap},MatsK H.length rs ss→safeV mk l ss ms=true→opsV mk L l K E H→dopsP L l rs ms K E H
 | [],rs,ss,ms,E,H,_,_,h=>h
 | i::l,rs,ss,ms,E,H,hm,hs,h=>by
  simp only [safeV,Bool.and_eq_true] at hs
  exact dstepV (K:=opsV mk L l K) h (fun r E' H' hr hn hl hk=>⟨indK_ok hr hn hm hs.1,dopsV l ((hm.mono hl).snoc hr) hs.2 hk⟩)
theorem SWP.drawV {mk:List Nat} {L:Lib} {n0 N:Nat} {Q:Exit→Env→Heap→Prop} {E:Env} {H:Heap} {l:List AI} {ks:List Nat} (hs:safeV mk l [] []=true) (h:opsV mk L l (fun E H=>Q .normal (E.kill ks) H) E H):SWP L n0 N (.ops true l ks) Q E H:=
 SWP.draw (dopsV l (rs:=[]) (ss:=[]) trivial hs h)
theorem MFn.at {L:Lib} {k:Nat} {vs:List V} {r:V} {h':Heap} (h:MFn L k vs r h') (H:Heap):AFn L (.fn k) vs H (fun r' H'=>r'=r.ren (upσ H.length)∧H'=H++h'.map (Option.map (Blk.ren (upσ H.length)))):=by
 have e1:vs.map (V.ren (sgOf H ([].map some) []))=vs:=by rw [←V.rens_map];exact V.rens_closed _ h.1
 refine AFn.frame (k':=.fn k) [] [] rfl rfl rfl ?_
 rw [e1]
 refine AFn.mono (show AFn L (.fn k) vs [] _ from h.2) ?_
 rintro r' H' ⟨rfl,rfl⟩
 refine ⟨rfl,by rw [outσ_nil],?_⟩
 simp [Heap.back,Heap.upds,outσ_nil]
theorem stepV_P {mk:List Nat} {L:Lib} {i:AI} {K:Env→Heap→Prop} {E:Env} {H:Heap} (h:stepV mk L i K E H):stepP L i K E H:=by
 unfold stepV at h
 unfold stepP
 cases hg:i.goes E.get with
 | none=>rw [hg] at h;exact h.elim
 | some b=>
  rw [hg] at h
  cases b with
  | false=>exact h
  | true=>
   dsimp only at h ⊢
   split at h
   ·rename_i k args hop
    rw [hop]
    dsimp only
    unfold CallP callee
    cases hmk:mk.contains k with
    | false=>
     rw [hmk] at h
     obtain ⟨vs,r,h1,hf,h2⟩:=h
     rw [h1]
     show AFn L (.fn k) vs H _
     exact (hf.at H).mono (fun r' H' ⟨e1,e2⟩=>by rw [e1,e2];exact h2)
    | true=>
     rw [hmk] at h
     obtain ⟨vs,r,h',h1,hf,h2⟩:=h
     rw [h1]
     show AFn L (.fn k) vs H _
     exact (hf.at H).mono (fun r' H' ⟨e1,e2⟩=>by rw [e1,e2];exact h2)
   ·exact h.elim
   ·rename_i hn1 hn2
    cases hop:i.op with
    | call c args=>
     cases c with
     | fn k=>exact absurd hop (hn1 k args)
     | _=>exact absurd hop (hn2 _ _)
    | mnext x=>
     rw [hop] at h
     dsimp only at h ⊢
     split at h
     ·rename_i e he
      have he:(AOp.mnext x).exec0 H.length (shG 0 H.get) (opval L.G E.get)=some e:=he
      rw [shG0] at he
      simp only [AOp.exec0,Option.bind_eq_some_iff] at he
      obtain ⟨v,hv,he⟩:=he
      unfold mnextV at he
      split at he
      ·rename_i e' hl
       simp only [Option.some.injEq] at he
       subst he
       rw [hv,Option.bind_some,hl]
       intro e he
       rw [List.mem_singleton] at he
       subst he
       exact h
      ·cases he
     ·exact h.elim
    | _=>rw [hop] at h;exact h
theorem opsV_P {mk:List Nat} {L:Lib} {K:Env→Heap→Prop}:∀{l:List AI} {E:Env} {H:Heap},opsV mk L l K E H→opsP L l K E H
 | [],E,H,h=>h
 | i::l,E,H,h=>stepP.mono (K:=opsV mk L l K) (stepV_P h) (fun E H h=>opsV_P h)
theorem SWP.opsV {mk:List Nat} {L:Lib} {n0 N:Nat} {Q:Exit→Env→Heap→Prop} {E:Env} {H:Heap} {l:List AI} {ks:List Nat} (h:opsV mk L l (fun E H=>Q .normal (E.kill ks) H) E H):SWP L n0 N (.ops false l ks) Q E H:=SWP.ops (opsV_P h)
end Go.Proofs.YtigdhgbkgfagiaaGreat
set_option linter.unusedSimpArgs false
namespace Go.Proofs.YtigdhgbkgfagiaaGreat
section
variable {mk:List Nat} {L:Lib} {l:List AI} {K:Env→Heap→Prop} {E:Env} {H:Heap} {d:Option Nat} {anc:List Nat}
theorem opsV_nil:opsV mk L [] K E H↔K E H:=Iff.rfl
theorem opsV_eff {op:AOp} (hc:op.odd=false):opsV mk L (⟨d,op,none,anc⟩::l) K E H↔∃e,op.exec H.length H.get (opval L.G E.get)=some e∧(e.upd.all fun p=>Nat.blt p.1 H.length)=true∧opsV mk L l K (E.put d e.v) (H.app e):=by
 show stepV mk L ⟨d,op,none,anc⟩ (opsV mk L l K) E H↔_
 unfold stepV AI.goes
 dsimp only
 have key:∀op':AOp,(match AOp.exec H.length H.get (opval L.G E.get) op' with|some e=>(e.upd.all fun p=>Nat.blt p.1 H.length)=true∧opsV mk L l K (E.put d e.v) (H.app e)|none=>False)↔∃e,op'.exec H.length H.get (opval L.G E.get)=some e∧(e.upd.all fun p=>Nat.blt p.1 H.length)=true∧opsV mk L l K (E.put d e.v) (H.app e):=fun op'=>opt_iff
 cases op <;> first|exact key _|exact key (.alloc _)|exact key .no|exact opt_iff (P:=fun e=>(e.upd.all fun p=>Nat.blt p.1 H.length)=true∧opsV mk L l K (E.put d e.v) (H.app e))|(simp [AOp.odd] at hc;done)
theorem opsV_val {op:AOp} (hc:op.odd=false) {g:Option V} (hg:op.exec H.length H.get (opval L.G E.get)=g.bind fun v=>some ({ v:=v }:Eff)):opsV mk L (⟨d,op,none,anc⟩::l) K E H↔∃v,g=some v∧opsV mk L l K (E.put d v) H:=by
 rw [opsV_eff hc,hg]
 cases g with
 | none=>simp
 | some v=>simp [Heap.app_v]
theorem opsV_mov_iff {x:AOpd}:opsV mk L (⟨d,.mov x,none,anc⟩::l) K E H↔∃v,opval L.G E.get x=some v∧opsV mk L l K (E.put d v) H:=opsV_val rfl rfl
theorem opsV_pick_iff {c a b:AOpd}:opsV mk L (⟨d,.pick c a b,none,anc⟩::l) K E H↔∃t,opval L.G E.get c=some (.bool t)∧∃v,opval L.G E.get (if t then a else b)=some v∧opsV mk L l K (E.put d v) H:=by
 rw [opsV_eff rfl]
 show (∃e,((opval L.G E.get c).bind fun v=>match v with|.bool true=>(opval L.G E.get a).bind fun v=>some ({ v:=v }:Eff)|.bool false=>(opval L.G E.get b).bind fun v=>some ({ v:=v }:Eff)|_=>none)=some e∧_)↔_
 cases opval L.G E.get c with
 | none=>simp
 | some v=>
  cases v with
  | bool t=>
   cases t
   ·cases hb:opval L.G E.get b <;> simp [Heap.app_v,hb]
   ·cases ha:opval L.G E.get a <;> simp [Heap.app_v,ha]
  | _=>simp
theorem opsV_bin_iff {op:BinOp} {x y:AOpd}:opsV mk L (⟨d,.bin op x y,none,anc⟩::l) K E H↔∃a,opval L.G E.get x=some a∧∃b,opval L.G E.get y=some b∧∃v,binV op a b=some v∧opsV mk L l K (E.put d v) H:=by
 rw [opsV_val (g:=(opval L.G E.get x).bind fun a=>(opval L.G E.get y).bind fun b=>binV op a b) rfl]
 ·simp only [Option.bind_eq_some_iff]
  constructor
  ·rintro ⟨v,⟨a,ha,b,hb,hv⟩,h⟩;exact ⟨a,ha,b,hb,v,hv,h⟩
  ·rintro ⟨a,ha,b,hb,v,hv,h⟩;exact ⟨v,⟨a,ha,b,hb,hv⟩,h⟩
 ·show ((opval L.G E.get x).bind fun a=>(opval L.G E.get y).bind fun b=>(binV op a b).bind fun v=>some ({ v:=v }:Eff))=_
  cases opval L.G E.get x with
  | none=>rfl
  | some a=>cases opval L.G E.get y <;> rfl
theorem opsV_un_iff {op:UnOp} {x:AOpd}:opsV mk L (⟨d,.un op x,none,anc⟩::l) K E H↔∃a,opval L.G E.get x=some a∧∃v,unV op a=some v∧opsV mk L l K (E.put d v) H:=by
 rw [opsV_val (g:=(opval L.G E.get x).bind fun a=>unV op a) rfl]
 ·simp only [Option.bind_eq_some_iff]
  constructor
  ·rintro ⟨v,⟨a,ha,hv⟩,h⟩;exact ⟨a,ha,v,hv,h⟩
  ·rintro ⟨a,ha,v,hv,h⟩;exact ⟨v,⟨a,ha,hv⟩,h⟩
 ·show ((opval L.G E.get x).bind fun a=>(unV op a).bind fun v=>some ({ v:=v }:Eff))=_
  cases opval L.G E.get x <;> rfl
theorem opsV_goes {op:AOp} {t:Nat} {w b:Bool} (h:(⟨d,op,some (t,w),anc⟩:AI).goes E.get=some b):opsV mk L (⟨d,op,some (t,w),anc⟩::l) K E H=(if b then opsV mk L (⟨d,op,none,anc⟩::l) K E H else opsV mk L l K (E.put d (.tup [])) H):=by
 show stepV mk L ⟨d,op,some (t,w),anc⟩ (opsV mk L l K) E H=_
 unfold stepV
 rw [h]
 cases b <;> rfl
theorem opsV_gtt {op:AOp} {t:Nat} (h:E.get t=some (.bool true)):opsV mk L (⟨d,op,some (t,true),anc⟩::l) K E H=opsV mk L (⟨d,op,none,anc⟩::l) K E H:=opsV_goes (b:=true) (by unfold AI.goes;simp only [h];rfl)
theorem opsV_gff {op:AOp} {t:Nat} (h:E.get t=some (.bool false)):opsV mk L (⟨d,op,some (t,false),anc⟩::l) K E H=opsV mk L (⟨d,op,none,anc⟩::l) K E H:=opsV_goes (b:=true) (by unfold AI.goes;simp only [h];rfl)
theorem opsV_gtf {op:AOp} {t:Nat} (h:E.get t=some (.bool false)):opsV mk L (⟨d,op,some (t,true),anc⟩::l) K E H=opsV mk L l K (E.put d (.tup [])) H:=opsV_goes (b:=false) (by unfold AI.goes;simp only [h];rfl)
theorem opsV_gft {op:AOp} {t:Nat} (h:E.get t=some (.bool true)):opsV mk L (⟨d,op,some (t,false),anc⟩::l) K E H=opsV mk L l K (E.put d (.tup [])) H:=opsV_goes (b:=false) (by unfold AI.goes;simp only [h];rfl)
theorem opsV_gu {op:AOp} {t:Nat} {w:Bool} (h:E.get t=some (.tup [])):opsV mk L (⟨d,op,some (t,w),anc⟩::l) K E H=opsV mk L l K (E.put d (.tup [])) H:=opsV_goes (b:=false) (by unfold AI.goes;simp only [h])
theorem opsV_mov {x:AOpd}:opsV mk L (⟨d,.mov x,none,anc⟩::l) K E H=bP (opval L.G E.get x) fun v=>opsV mk L l K (E.put d v) H:=propext opsV_mov_iff
theorem opsV_pick {c a b:AOpd}:opsV mk L (⟨d,.pick c a b,none,anc⟩::l) K E H=bP (opval L.G E.get c) fun x=>bP (boolQ x) fun t=>bP (opval L.G E.get (pickQ t a b)) fun v=>opsV mk L l K (E.put d v) H:=by
 refine propext (opsV_pick_iff.trans ?_)
 constructor
 ·rintro ⟨t,h1,v,h2,h3⟩;exact ⟨_,h1,t,rfl,v,h2,h3⟩
 ·rintro ⟨x,h1,t,h2,v,h3,h4⟩
  cases x <;> cases h2
  exact ⟨_,h1,v,h3,h4⟩
theorem opsV_bin {op:BinOp} {x y:AOpd}:opsV mk L (⟨d,.bin op x y,none,anc⟩::l) K E H=bP (opval L.G E.get x) fun a=>bP (opval L.G E.get y) fun b=>bP (binV op a b) fun v=>opsV mk L l K (E.put d v) H:=propext opsV_bin_iff
theorem opsV_un {op:UnOp} {x:AOpd}:opsV mk L (⟨d,.un op x,none,anc⟩::l) K E H=bP (opval L.G E.get x) fun a=>bP (unV op a) fun v=>opsV mk L l K (E.put d v) H:=propext opsV_un_iff
theorem opsV_box_iff {x:AOpd}:opsV mk L (⟨d,.box x,none,anc⟩::l) K E H↔∃v,opval L.G E.get x=some v∧v.isVal=true∧opsV mk L l K (E.put d (.ptr H.length v.cells.length 0 0)) (H++[some (.arr v.cells.length [v.cells])]):=by
 rw [opsV_eff rfl]
 show (∃e,((opval L.G E.get x).bind fun v=>if v.isVal then some ({ v:=.ptr H.length v.cells.length 0 0,new:=[.arr v.cells.length [v.cells]] }:Eff) else none)=some e∧_∧_)↔_
 cases opval L.G E.get x with
 | none=>simp
 | some v=>by_cases h:v.isVal=true <;> simp [h,Heap.app_new]
theorem opsV_alloc_iff {z:List V}:opsV mk L (⟨d,.alloc z,none,anc⟩::l) K E H↔opsV mk L l K (E.put d (.ptr H.length z.length 0 0)) (H++[some (.arr z.length [z])]):=by
 rw [opsV_eff rfl]
 show (∃e,some ({ v:=.ptr H.length z.length 0 0,new:=[.arr z.length [z]] }:Eff)=some e∧_∧_)↔_
 simp [Heap.app_new]
theorem opsV_fa_iff {x:AOpd} {off:Nat}:opsV mk L (⟨d,.fa x off,none,anc⟩::l) K E H↔∃a,opval L.G E.get x=some a∧∃v,faQ off a=some v∧opsV mk L l K (E.put d v) H:=by
 rw [opsV_val (g:=(opval L.G E.get x).bind (faQ off)) rfl]
 ·simp only [Option.bind_eq_some_iff]
  constructor
  ·rintro ⟨v,⟨a,ha,hv⟩,h⟩;exact ⟨a,ha,v,hv,h⟩
  ·rintro ⟨a,ha,v,hv,h⟩;exact ⟨v,⟨a,ha,hv⟩,h⟩
 ·show ((opval L.G E.get x).bind fun x=>match x with|.ptr a size i o=>some ({ v:=.ptr a size i (o+off) }:Eff)|.iptr size rows i o=>some { v:=.iptr size rows i (o+off) }|_=>none)=_
  cases opval L.G E.get x with
  | none=>rfl
  | some v=>cases v <;> rfl
theorem opsV_len_iff {x:AOpd}:opsV mk L (⟨d,.len x,none,anc⟩::l) K E H↔∃a,opval L.G E.get x=some a∧∃v,lenQ a=some v∧opsV mk L l K (E.put d v) H:=by
 rw [opsV_val (g:=(opval L.G E.get x).bind lenQ) rfl]
 ·simp only [Option.bind_eq_some_iff]
  constructor
  ·rintro ⟨v,⟨a,ha,hv⟩,h⟩;exact ⟨a,ha,v,hv,h⟩
  ·rintro ⟨a,ha,v,hv,h⟩;exact ⟨v,⟨a,ha,hv⟩,h⟩
 ·show ((opval L.G E.get x).bind fun x=>match x with|.ref _ _ _ ln _=>some ({ v:=.int .i64 ln }:Eff)|.lst _ rows _=>some { v:=.int .i64 rows.length }|_=>none)=_
  cases opval L.G E.get x with
  | none=>rfl
  | some v=>cases v <;> rfl
theorem opsV_ia_iff {size:Nat} {x y:AOpd}:opsV mk L (⟨d,.ia size x y,none,anc⟩::l) K E H↔∃a,opval L.G E.get x=some a∧∃b,opval L.G E.get y=some b∧∃i,b.nat?=some i∧∃v,iaQ size a i=some v∧opsV mk L l K (E.put d v) H:=by
 rw [opsV_val (g:=(opval L.G E.get x).bind fun a=>((opval L.G E.get y).bind V.nat?).bind fun i=>iaQ size a i) rfl]
 ·simp only [Option.bind_eq_some_iff]
  constructor
  ·rintro ⟨v,⟨a,ha,i,⟨b,hb,hi⟩,hv⟩,h⟩;exact ⟨a,ha,b,hb,i,hi,v,hv,h⟩
  ·rintro ⟨a,ha,b,hb,i,hi,v,hv,h⟩;exact ⟨v,⟨a,ha,i,⟨b,hb,hi⟩,hv⟩,h⟩
 ·show ((opval L.G E.get x).bind fun x=>((opval L.G E.get y).bind V.nat?).bind fun i=>match x with
    | .ref a size' off ln _=>if size'=size∧i < ln then some ({ v:=.ptr a size (off+i) 0 }:Eff) else none
    | .lst size' rows _=>if size'=size∧i < rows.length then some { v:=.iptr size rows i 0 } else none
    | _=>none)=_
  cases opval L.G E.get x with
  | none=>rfl
  | some v=>
   show (((opval L.G E.get y).bind V.nat?).bind _)=(((opval L.G E.get y).bind V.nat?).bind _).bind _
   cases (opval L.G E.get y).bind V.nat? with
   | none=>rfl
   | some i=>
    cases v with
    | ref a s o n c=>show (if _ then _ else _)=(if _ then _ else _:Option V).bind _;by_cases h:s=size∧i < n <;> simp [h]
    | lst s rows c=>show (if _ then _ else _)=(if _ then _ else _:Option V).bind _;by_cases h:s=size∧i < rows.length <;> simp [h]
    | _=>rfl
theorem opsV_iaa_iff {size ln:Nat} {x y:AOpd}:opsV mk L (⟨d,.iaa size ln x y,none,anc⟩::l) K E H↔∃a,opval L.G E.get x=some a∧∃b,opval L.G E.get y=some b∧∃i,b.nat?=some i∧i < ln∧∃v,faQ (i*size) a=some v∧opsV mk L l K (E.put d v) H:=by
 rw [opsV_val (g:=(opval L.G E.get x).bind fun a=>((opval L.G E.get y).bind V.nat?).bind fun i=>if i < ln then faQ (i*size) a else none) rfl]
 ·simp only [Option.bind_eq_some_iff,Option.ite_none_right_eq_some]
  constructor
  ·rintro ⟨v,⟨a,ha,i,⟨b,hb,hi⟩,hl,hv⟩,h⟩;exact ⟨a,ha,b,hb,i,hi,hl,v,hv,h⟩
  ·rintro ⟨a,ha,b,hb,i,hi,hl,v,hv,h⟩;exact ⟨v,⟨a,ha,i,⟨b,hb,hi⟩,hl,hv⟩,h⟩
 ·show ((opval L.G E.get x).bind fun x=>((opval L.G E.get y).bind V.nat?).bind fun i=>if i < ln then (match x with|.ptr a size' j o=>some ({ v:=.ptr a size' j (o+i*size) }:Eff)|.iptr size' rows j o=>some { v:=.iptr size' rows j (o+i*size) }|_=>none) else none)=_
  cases opval L.G E.get x with
  | none=>rfl
  | some v=>
   show (((opval L.G E.get y).bind V.nat?).bind _)=(((opval L.G E.get y).bind V.nat?).bind _).bind _
   cases (opval L.G E.get y).bind V.nat? with
   | none=>rfl
   | some i=>
    show (if i < ln then _ else _)=(if i < ln then _ else _:Option V).bind _
    by_cases h:i < ln
    ·rw [if_pos h,if_pos h];cases v <;> rfl
    ·rw [if_neg h,if_neg h];rfl
theorem opsV_load_iff {k:Nat} {leaf:Bool} {p:AOpd}:opsV mk L (⟨d,.load k leaf p,none,anc⟩::l) K E H↔∃a,opval L.G E.get p=some a∧∃v,loadQ H.get k leaf a=some v∧opsV mk L l K (E.put d v) H:=by
 rw [opsV_eff rfl]
 show (∃e,(opval L.G E.get p).bind (loadV (shG (((opval L.G E.get p).map V.psz).getD 0) H.get) k leaf)=some e∧_∧_)↔_
 cases opval L.G E.get p with
 | none=>simp
 | some a=>
  show (∃e,loadV (shG a.psz H.get) k leaf a=some e∧_∧_)↔_
  obtain ⟨nd,hnd⟩:=loadV_loadQ (get:=H.get) (k:=k) (leaf:=leaf) a
  rw [hnd]
  cases hq:loadQ H.get k leaf a with
  | none=>simp [hq]
  | some v=>simp [hq,Heap.app_v]
theorem opsV_store_iff {k:Nat} {p y:AOpd}:opsV mk L (⟨d,.store k p y,none,anc⟩::l) K E H↔∃a,opval L.G E.get p=some a∧∃x,opval L.G E.get y=some x∧∃q,ptrQ a=some q∧∃rows,storeB (H.get q.1) q.2.1 q.2.2.1 q.2.2.2 k x=some rows∧q.1 < H.length∧opsV mk L l K (E.put d (.tup [])) (H.set q.1 (some (.arr q.2.1 rows))):=by
 rw [opsV_eff rfl]
 show (∃e,((opval L.G E.get p).bind fun p'=>(opval L.G E.get y).bind fun x=>storeV (shG (((opval L.G E.get p).map V.psz).getD 0) H.get) k p' x)=some e∧_∧_)↔_
 cases opval L.G E.get p with
 | none=>simp
 | some a=>
  cases opval L.G E.get y with
  | none=>simp
  | some x=>
   show (∃e,storeV (shG a.psz H.get) k a x=some e∧_∧_)↔_
   simp only [Option.some.injEq,exists_eq_left']
   cases a with
   | ptr a s i o=>
    simp only [ptrQ,Option.some.injEq,exists_eq_left']
    unfold storeV storeB shG
    dsimp only [V.psz]
    cases (H.get a).map (Blk.shape s) with
    | none=>simp
    | some b=>
     cases b with
     | arr s' rows=>
      dsimp only
      by_cases h:s=s'∧x.cells.length=k∧x.isVal=true
      ·rw [if_pos h,if_pos h]
       cases rows[i]? with
       | none=>simp
       | some row=>
        simp only [Option.bind]
        by_cases h2:o+k≤row.length
        ·rw [if_pos h2,if_pos h2]
         simp only [Option.some.injEq,exists_eq_left']
         constructor
         ·rintro ⟨h3,h4⟩
          refine ⟨by simpa using h3,?_⟩
          simpa [Heap.app,Heap.upds] using h4
         ·rintro ⟨h3,h4⟩
          refine ⟨by simpa using h3,?_⟩
          simpa [Heap.app,Heap.upds] using h4
        ·rw [if_neg h2,if_neg h2];simp
      ·rw [if_neg h,if_neg h];simp
     | _=>simp
   | _=>simp [ptrQ,storeV]
theorem opsV_box {x:AOpd}:opsV mk L (⟨d,.box x,none,anc⟩::l) K E H=bP (opval L.G E.get x) fun v=>aP (v.isVal=true) (opsV mk L l K (E.put d (.ptr H.length v.cells.length 0 0)) (H++[some (.arr v.cells.length [v.cells])])):=propext opsV_box_iff
theorem opsV_alloc {z:List V}:opsV mk L (⟨d,.alloc z,none,anc⟩::l) K E H=opsV mk L l K (E.put d (.ptr H.length z.length 0 0)) (H++[some (.arr z.length [z])]):=propext opsV_alloc_iff
theorem opsV_fa {x:AOpd} {off:Nat}:opsV mk L (⟨d,.fa x off,none,anc⟩::l) K E H=bP (opval L.G E.get x) fun a=>bP (faQ off a) fun v=>opsV mk L l K (E.put d v) H:=propext opsV_fa_iff
theorem opsV_len {x:AOpd}:opsV mk L (⟨d,.len x,none,anc⟩::l) K E H=bP (opval L.G E.get x) fun a=>bP (lenQ a) fun v=>opsV mk L l K (E.put d v) H:=propext opsV_len_iff
theorem opsV_ia {size:Nat} {x y:AOpd}:opsV mk L (⟨d,.ia size x y,none,anc⟩::l) K E H=bP (opval L.G E.get x) fun a=>bP (opval L.G E.get y) fun b=>bP b.nat? fun i=>bP (iaQ size a i) fun v=>opsV mk L l K (E.put d v) H:=propext opsV_ia_iff
theorem opsV_iaa {size ln:Nat} {x y:AOpd}:opsV mk L (⟨d,.iaa size ln x y,none,anc⟩::l) K E H=bP (opval L.G E.get x) fun a=>bP (opval L.G E.get y) fun b=>bP b.nat? fun i=>aP (i < ln) (bP (faQ (i*size) a) fun v=>opsV mk L l K (E.put d v) H):=propext opsV_iaa_iff
theorem opsV_load {k:Nat} {leaf:Bool} {p:AOpd}:opsV mk L (⟨d,.load k leaf p,none,anc⟩::l) K E H=bP (opval L.G E.get p) fun a=>bP (loadQ H.get k leaf a) fun v=>opsV mk L l K (E.put d v) H:=propext opsV_load_iff
theorem opsV_store {k:Nat} {p y:AOpd}:opsV mk L (⟨d,.store k p y,none,anc⟩::l) K E H=bP (opval L.G E.get p) fun a=>bP (opval L.G E.get y) fun x=>bP (ptrQ a) fun q=>bP (storeB (H.get q.1) q.2.1 q.2.2.1 q.2.2.2 k x) fun rows=>aP (q.1 < H.length) (opsV mk L l K (E.put d (.tup [])) (H.set q.1 (some (.arr q.2.1 rows)))):=propext opsV_store_iff
theorem stepV.mono {mk:List Nat} {L:Lib} {i:AI} {K K':Env→Heap→Prop} {E:Env} {H:Heap} (h:stepV mk L i K E H) (hk:∀E H,K E H→K' E H):stepV mk L i K' E H:=by
 obtain ⟨d,op,g,anc⟩:=i
 unfold stepV at h ⊢
 split at h
 ·exact hk _ _ h
 ·dsimp only at h ⊢
  split at h
  ·split at h
   ·rename_i h0
    obtain ⟨vs,r,h1,h2,h3⟩:=h
    exact ⟨vs,r,h1,h2,hk _ _ h3⟩
   ·rename_i h0
    obtain ⟨vs,r,h',h1,h2,h3⟩:=h
    exact ⟨vs,r,h',h1,h2,hk _ _ h3⟩
  ·exact h.elim
  ·split at h
   ·exact ⟨h.1,hk _ _ h.2⟩
   ·exact h.elim
 ·exact h.elim
theorem opsV.mono {L:Lib} {K K':Env→Heap→Prop} (hk:∀E H,K E H→K' E H):∀{l:List AI} {E:Env} {H:Heap},opsV mk L l K E H→opsV mk L l K' E H
 | [],E,H,h=>hk _ _ h
 | i::l,E,H,h=>stepV.mono (K:=opsV mk L l K) (K':=opsV mk L l K') h (fun E H h=>opsV.mono hk h)
theorem opsV.out {L:Lib} {l:List AI} {ks:List Nat} {E E':Env} {H H':Heap} {Q:Exit→Env→Heap→Prop} (h:opsV mk L l (fun E1 H1=>E1.kill ks=E'∧H1=H') E H) (k:Q .normal E' H'):opsV mk L l (fun E1 H1=>Q .normal (E1.kill ks) H1) E H:=by
 refine opsV.mono (fun E1 H1 h1=>?_) h
 rw [h1.1,h1.2];exact k
theorem opsV_q {op:AOp} (hc:op.odd=false) {α:Type} {o:Option α} {g:α→Option V} (h:∀a,o=some a→∃nd,op.exec H.length H.get (opval L.G E.get)=(g a).map fun v=>({ v:=v,need:=nd }:Eff)) (hn:o=none→op.exec H.length H.get (opval L.G E.get)=none):opsV mk L (⟨d,op,none,anc⟩::l) K E H=bP o fun a=>bP (g a) fun v=>opsV mk L l K (E.put d v) H:=by
 refine propext ((opsV_eff hc).trans ?_)
 cases o with
 | none=>rw [hn rfl];simp [bP]
 | some a=>
  obtain ⟨nd,hnd⟩:=h a rfl
  rw [hnd,bP_some]
  cases g a with
  | none=>simp [bP]
  | some v=>simp [bP,Heap.app_v]
theorem opsV_nw {op:AOp} (hc:op.odd=false) {α:Type} {o:Option α} {g:α→V×Blk} (h:op.exec H.length H.get (opval L.G E.get)=o.map fun a=>({ v:=(g a).1,new:=[(g a).2] }:Eff)):opsV mk L (⟨d,op,none,anc⟩::l) K E H=bP o fun a=>opsV mk L l K (E.put d (g a).1) (H++[some (g a).2]):=by
 refine propext ((opsV_eff hc).trans ?_)
 rw [h]
 cases o with
 | none=>simp [bP]
 | some a=>simp [bP,Heap.app_new]
theorem opsV_conv {k:IntKind} {x:AOpd}:opsV mk L (⟨d,.conv k x,none,anc⟩::l) K E H=bP (opval L.G E.get x) fun a=>bP (convQ k a) fun v=>opsV mk L l K (E.put d v) H:=
 opsV_q rfl (fun a h=>⟨[],by show (opval L.G E.get x).bind _=_;rw [h];cases a <;> rfl⟩) (fun h=>by show (opval L.G E.get x).bind _=_;rw [h];rfl)
theorem opsV_slen {x:AOpd}:opsV mk L (⟨d,.slen x,none,anc⟩::l) K E H=bP (opval L.G E.get x) fun a=>bP (slenQ a) fun v=>opsV mk L l K (E.put d v) H:=
 opsV_q rfl (fun a h=>⟨[],by show (opval L.G E.get x).bind _=_;rw [h];cases a <;> rfl⟩) (fun h=>by show (opval L.G E.get x).bind _=_;rw [h];rfl)
theorem opsV_nilchk {x:AOpd}:opsV mk L (⟨d,.nilchk x,none,anc⟩::l) K E H=bP (opval L.G E.get x) fun a=>bP (nilchkQ a) fun v=>opsV mk L l K (E.put d v) H:=
 opsV_q rfl (fun a h=>⟨[],by show (opval L.G E.get x).bind _=_;rw [h];cases a <;> rfl⟩) (fun h=>by show (opval L.G E.get x).bind _=_;rw [h];rfl)
theorem opsV_fld {off k:Nat} {leaf:Bool} {x:AOpd}:opsV mk L (⟨d,.fld x off k leaf,none,anc⟩::l) K E H=bP (opval L.G E.get x) fun a=>bP (fldQ off k leaf a) fun v=>opsV mk L l K (E.put d v) H:=
 opsV_q rfl (fun a h=>⟨[],by
  show (opval L.G E.get x).bind _=_
  rw [h]
  cases a with
  | agg cs=>show (takeCells cs off k leaf).bind _=(takeCells cs off k leaf).map _;cases takeCells cs off k leaf <;> rfl
  | _=>rfl⟩) (fun h=>by show (opval L.G E.get x).bind _=_;rw [h];rfl)
theorem opsV_ext {i:Nat} {x:AOpd}:opsV mk L (⟨d,.ext x i,none,anc⟩::l) K E H=bP (opval L.G E.get x) fun a=>bP (extQ i a) fun v=>opsV mk L l K (E.put d v) H:=
 opsV_q rfl (fun a h=>⟨[],by
  show (opval L.G E.get x).bind _=_
  rw [h]
  cases a with
  | tup vs=>show (vs[i]?).bind _=(vs[i]?).map _;cases vs[i]? <;> rfl
  | _=>rfl⟩) (fun h=>by show (opval L.G E.get x).bind _=_;rw [h];rfl)
theorem opsV_isnil {c:Nat} {neg:Bool} {x:AOpd}:opsV mk L (⟨d,.isnil c neg x,none,anc⟩::l) K E H=bP (opval L.G E.get x) fun a=>bP (isnilQ c neg a) fun v=>opsV mk L l K (E.put d v) H:=
 opsV_q rfl (fun a h=>⟨[],by
  show (opval L.G E.get x).bind _=_
  rw [h]
  show (isnilV c a).bind _=((isnilV c a).map _).map _
  cases isnilV c a <;> rfl⟩) (fun h=>by show (opval L.G E.get x).bind _=_;rw [h];rfl)
theorem opsV_q2 {op:AOp} (hc:op.odd=false) {x y:AOpd} {g:V→V→Option V} (h:op.exec H.length H.get (opval L.G E.get)=(opval L.G E.get x).bind fun a=>(opval L.G E.get y).bind fun b=>(g a b).bind fun v=>some ({ v:=v }:Eff)):opsV mk L (⟨d,op,none,anc⟩::l) K E H=bP (opval L.G E.get x) fun a=>bP (opval L.G E.get y) fun b=>bP (g a b) fun v=>opsV mk L l K (E.put d v) H:=by
 refine propext ((opsV_eff hc).trans ?_)
 rw [h]
 cases opval L.G E.get x with
 | none=>simp [bP]
 | some a=>
  cases opval L.G E.get y with
  | none=>simp [bP]
  | some b=>
   simp only [bP_some]
   cases hg:g a b with
   | none=>simp [bP,hg]
   | some v=>simp [bP,Heap.app_v,hg]
theorem opsV_acmp {s:Shp} {neg:Bool} {x y:AOpd}:opsV mk L (⟨d,.acmp s neg x y,none,anc⟩::l) K E H=bP (opval L.G E.get x) fun a=>bP (opval L.G E.get y) fun b=>bP (acmpQ s neg a b) fun v=>opsV mk L l K (E.put d v) H:=
 opsV_q2 rfl (by
  show ((opval L.G E.get x).bind fun x=>(opval L.G E.get y).bind fun y=>(eqS s x y).bind fun b=>some ({ v:=.bool (if neg then !b else b) }:Eff))=_
  cases opval L.G E.get x with
  | none=>rfl
  | some a=>
   cases opval L.G E.get y with
   | none=>rfl
   | some b=>show (eqS s a b).bind _=((eqS s a b).map _).bind _;cases eqS s a b <;> rfl)
theorem opsV_chr {x y:AOpd}:opsV mk L (⟨d,.chr x y,none,anc⟩::l) K E H=bP (opval L.G E.get x) fun a=>bP (opval L.G E.get y) fun b=>bP (chrQ a b) fun v=>opsV mk L l K (E.put d v) H:=
 opsV_q2 rfl (by
  show ((opval L.G E.get x).bind fun x=>((opval L.G E.get y).bind V.nat?).bind fun i=>match x with|.str s=>(s[i]?).bind fun b=>some ({ v:=.int .u8 b.toNat }:Eff)|_=>none)=_
  cases opval L.G E.get x with
  | none=>rfl
  | some a=>
   cases opval L.G E.get y with
   | none=>rfl
   | some b=>
    show (b.nat?).bind _=(chrQ a b).bind _
    cases a with
    | str s=>
     show _=((b.nat?).bind _).bind _
     cases b.nat? with
     | none=>rfl
     | some i=>show (s[i]?).bind _=((s[i]?).map _).bind _;cases s[i]? <;> rfl
    | _=>cases b.nat? <;> rfl)
theorem opsV_build {z:List V} {ps:List (Nat×Nat×AOpd)}:opsV mk L (⟨d,.build z ps,none,anc⟩::l) K E H=bP (evalParts (opval L.G E.get) ps) fun a=>bP ((fillCells z a).map .agg) fun v=>opsV mk L l K (E.put d v) H:=
 opsV_q rfl (fun a h=>⟨[],by show (evalParts (opval L.G E.get) ps).bind _=_;rw [h];show (fillCells z a).bind _=((fillCells z a).map _).map _;cases fillCells z a <;> rfl⟩) (fun h=>by show (evalParts (opval L.G E.get) ps).bind _=_;rw [h];rfl)
theorem opsV_min {xs:List AOpd}:opsV mk L (⟨d,.min xs,none,anc⟩::l) K E H=bP (evals (opval L.G E.get) xs) fun vs=>bP (minQ vs) fun v=>opsV mk L l K (E.put d v) H:=
 opsV_q rfl (fun a h=>⟨[],by
  show (evals (opval L.G E.get) xs).bind _=_
  rw [h]
  cases a with
  | nil=>rfl
  | cons v r=>show (foldInts _ v r).bind _=(foldInts _ v r).map _;cases foldInts (fun x y=>if y < x then y else x) v r <;> rfl⟩) (fun h=>by show (evals (opval L.G E.get) xs).bind _=_;rw [h];rfl)
theorem opsV_max {xs:List AOpd}:opsV mk L (⟨d,.max xs,none,anc⟩::l) K E H=bP (evals (opval L.G E.get) xs) fun vs=>bP (maxQ vs) fun v=>opsV mk L l K (E.put d v) H:=
 opsV_q rfl (fun a h=>⟨[],by
  show (evals (opval L.G E.get) xs).bind _=_
  rw [h]
  cases a with
  | nil=>rfl
  | cons v r=>show (foldInts _ v r).bind _=(foldInts _ v r).map _;cases foldInts (fun x y=>if y > x then y else x) v r <;> rfl⟩) (fun h=>by show (evals (opval L.G E.get) xs).bind _=_;rw [h];rfl)
theorem opsV_slice {size:Nat} {x:AOpd} {lo hi mx:Option AOpd}:opsV mk L (⟨d,.slice size x lo hi mx,none,anc⟩::l) K E H=bP (opval L.G E.get x) fun a=>bP (sliceV size a (optNat? (opval L.G E.get) lo) (optNat? (opval L.G E.get) hi) (optNat? (opval L.G E.get) mx)) fun v=>opsV mk L l K (E.put d v) H:=
 opsV_q rfl (fun a h=>⟨[],by show (opval L.G E.get x).bind _=_;rw [h];show (sliceV size a _ _ _).bind _=(sliceV size a _ _ _).map _;cases sliceV size a (optNat? (opval L.G E.get) lo) (optNat? (opval L.G E.get) hi) (optNat? (opval L.G E.get) mx) <;> rfl⟩) (fun h=>by show (opval L.G E.get x).bind _=_;rw [h];rfl)
theorem opsV_bslice {size ln:Nat} {z:List V} {ps:List (Nat×AOpd)}:opsV mk L (⟨d,.bslice size z ln ps,none,anc⟩::l) K E H=bP (evalParts1 (opval L.G E.get) ps) fun a=>bP (fillRows size (List.replicate ln z) a) fun rows=>opsV mk L l K (E.put d (.ref H.length size 0 ln (some ln))) (H++[some (.arr size rows)]):=by
 rw [opsV_nw (o:=(evalParts1 (opval L.G E.get) ps).bind fun a=>fillRows size (List.replicate ln z) a) (g:=fun rows=>(.ref H.length size 0 ln (some ln),.arr size rows)) rfl]
 ·cases evalParts1 (opval L.G E.get) ps with
  | none=>simp [bP]
  | some a=>simp only [bP_some];rfl
 ·show (evalParts1 (opval L.G E.get) ps).bind _=_
  cases evalParts1 (opval L.G E.get) ps with
  | none=>rfl
  | some a=>show (fillRows size (List.replicate ln z) a).bind _=(fillRows size (List.replicate ln z) a).map _;cases fillRows size (List.replicate ln z) a <;> rfl
theorem opsV_mkslice {size bts:Nat} {z:List V} {x y:AOpd}:opsV mk L (⟨d,.mkslice size bts z x y,none,anc⟩::l) K E H=bP (opval L.G E.get x) fun a=>bP a.nat? fun n=>bP (opval L.G E.get y) fun b=>bP b.nat? fun c=>aP (n≤c∧c*bts≤140737488355328∧c < 9223372036854775808∧z.length=size) (opsV mk L l K (E.put d (.ref H.length size 0 n (some c))) (H++[some (.arr size (List.replicate c z))])):=by
 rw [opsV_nw (o:=((opval L.G E.get x).bind V.nat?).bind fun n=>((opval L.G E.get y).bind V.nat?).bind fun c=>if n≤c∧c*bts≤140737488355328∧c < 9223372036854775808∧z.length=size then some (n,c) else none) (g:=fun p=>(.ref H.length size 0 p.1 (some p.2),.arr size (List.replicate p.2 z))) rfl]
 ·cases opval L.G E.get x with
  | none=>simp [bP]
  | some a=>
   cases ha:a.nat? with
   | none=>simp [bP,ha]
   | some n=>
    cases opval L.G E.get y with
    | none=>simp [bP,ha]
    | some b=>
     cases hb:b.nat? with
     | none=>simp [bP,hb,ha]
     | some c=>
      simp only [bP_some,Option.bind_some,ha,hb]
      by_cases h:n≤c∧c*bts≤140737488355328∧c < 9223372036854775808∧z.length=size
      ·rw [if_pos h];simp [bP,aP,h]
      ·rw [if_neg h];simp only [bP,aP,h,false_and,eq_iff_iff,iff_false,reduceCtorEq,exists_const,not_false_eq_true]
 ·show (((opval L.G E.get x).bind V.nat?).bind _)=_
  cases (opval L.G E.get x).bind V.nat? with
  | none=>rfl
  | some n=>
   show (((opval L.G E.get y).bind V.nat?).bind _)=(((opval L.G E.get y).bind V.nat?).bind _).map _
   cases (opval L.G E.get y).bind V.nat? with
   | none=>rfl
   | some c=>
    show (if _ then _ else _)=(if _ then _ else _:Option (Nat×Nat)).map _
    by_cases h:n≤c∧c*bts≤140737488355328∧c < 9223372036854775808∧z.length=size
    ·rw [if_pos h,if_pos h];rfl
    ·rw [if_neg h,if_neg h];rfl
theorem opsV_m {op:AOp} (hc:op.odd=false):opsV mk L (⟨d,op,none,anc⟩::l) K E H=bP (op.exec H.length H.get (opval L.G E.get)) fun e=>aP ((e.upd.all fun p=>Nat.blt p.1 H.length)=true) (opsV mk L l K (E.put d e.v) (H.app e)):=propext (opsV_eff hc)
theorem opsV_append {size bts:Nat} {x y:AOpd}:opsV mk L (⟨d,.append size bts x y,none,anc⟩::l) K E H=bP (opval L.G E.get x) fun a=>bP (opval L.G E.get y) fun b=>bP (appendV H.length size bts (shG size H.get) a b) fun e=>aP ((e.upd.all fun p=>Nat.blt p.1 H.length)=true) (opsV mk L l K (E.put d e.v) (H.app e)):=by
 rw [opsV_m rfl]
 show bP ((opval L.G E.get x).bind fun x=>(opval L.G E.get y).bind fun y=>appendV H.length size bts (shG size H.get) x y) _=_
 simp only [bind_bP]
theorem opsV_call {k:Nat} {args:List AOpd} {vs:List V} {r:V} (hm:mk.contains k=false) (hv:evals (opval L.G E.get) args=some vs) (hf:VFn L k vs r) (h:opsV mk L l K (E.put d r) H):opsV mk L (⟨d,.call (.fn k) args,none,anc⟩::l) K E H:=by
 show stepV mk L ⟨d,.call (.fn k) args,none,anc⟩ (opsV mk L l K) E H
 show (match mk.contains k with|false=>_|true=>_)
 rw [hm]
 exact ⟨vs,r,hv,hf,h⟩
theorem opsV_make {k:Nat} {args:List AOpd} {vs:List V} {r:V} {h':Heap} (hm:mk.contains k=true) (hv:evals (opval L.G E.get) args=some vs) (hf:MFn L k vs r h') (h:opsV mk L l K (E.put d (r.ren (upσ H.length))) (H++h'.map (Option.map (Blk.ren (upσ H.length))))):opsV mk L (⟨d,.call (.fn k) args,none,anc⟩::l) K E H:=by
 show stepV mk L ⟨d,.call (.fn k) args,none,anc⟩ (opsV mk L l K) E H
 show (match mk.contains k with|false=>_|true=>_)
 rw [hm]
 exact ⟨vs,r,h',hv,hf,h⟩
end
attribute [push_cast] opsV_nil opsV_gtt opsV_gff opsV_gtf opsV_gft opsV_gu opsV_mov opsV_pick opsV_bin opsV_un opsV_box opsV_alloc opsV_fa opsV_len opsV_ia opsV_iaa opsV_load opsV_store opsV_conv opsV_slen opsV_nilchk opsV_fld opsV_ext opsV_isnil opsV_acmp opsV_chr opsV_build opsV_min opsV_max opsV_slice opsV_bslice opsV_mkslice opsV_append
end Go.Proofs.YtigdhgbkgfagiaaGreat
namespace Go.Proofs.YtigdhgbkgfagiaaGreat
def AC.l:AC→AC
 | .seq a _|.cond _ a _|.block _ a|.loop a|.range _ _ a _=>a
 | c=>c
def AC.r:AC→AC
 | .seq _ b|.cond _ _ b|.range _ _ _ b=>b
 | c=>c
def AC.tag:AC→Nat
 | .skip=>0|.ops false _ _=>1|.ops true _ _=>2|.seq _ _=>3|.cond _ _ _=>4|.block _ _=>5|.loop _=>6|.range _ _ _ _=>7|.exit _=>8|.ret=>9|.no=>10
def AC.id:AC→Nat
 | .block i _|.exit i=>i
 | _=>0
def AC.c:AC→AOpd
 | .cond c _ _=>c
 | .range g _ _ _=>g
 | _=>.t 0
def qN (L:Lib) (n0 N:Nat) (c:AC) (Q:Exit→Env→Heap→Prop):Exit→Env→Heap→Prop:=AX.then (SWP L n0 N c Q) Q
def qB (id:Nat) (Q:Exit→Env→Heap→Prop):Exit→Env→Heap→Prop:=AX.inBlock id Q
section
variable {L:Lib} {n0 N:Nat} {Q:Exit→Env→Heap→Prop} {E:Env} {H:Heap} {c:AC}
theorem qN_n:qN L n0 N c Q .normal E H=SWP L n0 N c Q E H:=rfl
theorem qN_e {i:Nat}:qN L n0 N c Q (.exit i) E H=Q (.exit i) E H:=rfl
theorem qN_r:qN L n0 N c Q .ret E H=Q .ret E H:=rfl
theorem qB_n {id:Nat}:qB id Q .normal E H=Q .normal E H:=rfl
theorem qB_e {id i:Nat}:qB id Q (.exit i) E H=if i=id then Q .normal E H else Q (.exit i) E H:=rfl
theorem qB_r {id:Nat}:qB id Q .ret E H=Q .ret E H:=rfl
theorem wSkip (h:c.tag=0) (k:Q .normal E H):SWP L n0 N c Q E H:=by
 cases c with
 | skip=>exact SWP.skip k
 | ops d _ _=>cases d <;> cases h
 | _=>cases h
theorem wSeq (h:c.tag=3) (k:SWP L n0 N c.l (qN L n0 N c.r Q) E H):SWP L n0 N c Q E H:=by
 cases c with
 | seq a b=>exact SWP.seq k
 | ops d _ _=>cases d <;> cases h
 | _=>cases h
theorem wBlock (h:c.tag=5) (k:SWP L n0 N c.l (qB c.id Q) E H):SWP L n0 N c Q E H:=by
 cases c with
 | block i a=>exact SWP.block k
 | ops d _ _=>cases d <;> cases h
 | _=>cases h
theorem wExit (h:c.tag=8) (k:Q (.exit c.id) E H):SWP L n0 N c Q E H:=by
 cases c with
 | exit i=>exact SWP.exit k
 | ops d _ _=>cases d <;> cases h
 | _=>cases h
theorem wRet (h:c.tag=9) (k:Q .ret E H):SWP L n0 N c Q E H:=by
 cases c with
 | ret=>exact SWP.ret k
 | ops d _ _=>cases d <;> cases h
 | _=>cases h
theorem wOps {l:List AI} {ks:List Nat} (h:c=.ops false l ks) (k:opsV [] L l (fun E H=>Q .normal (E.kill ks) H) E H):SWP L n0 N c Q E H:=by
 subst h;exact SWP.opsV k
theorem wOpsP {l:List AI} {ks:List Nat} (h:c=.ops false l ks) (k:opsP L l (fun E H=>Q .normal (E.kill ks) H) E H):SWP L n0 N c Q E H:=by
 subst h;exact SWP.ops k
theorem wDraw {l:List AI} {ks:List Nat} (h:c=.ops true l ks) (hs:safeV [] l [] []=true) (k:opsV [] L l (fun E H=>Q .normal (E.kill ks) H) E H):SWP L n0 N c Q E H:=by
 subst h;exact SWP.drawV hs k
theorem wOpsM (mk:List Nat) {l:List AI} {ks:List Nat} (h:c=.ops false l ks) (k:opsV mk L l (fun E H=>Q .normal (E.kill ks) H) E H):SWP L n0 N c Q E H:=by
 subst h;exact SWP.opsV k
theorem wDrawM (mk:List Nat) {l:List AI} {ks:List Nat} (h:c=.ops true l ks) (hs:safeV mk l [] []=true) (k:opsV mk L l (fun E H=>Q .normal (E.kill ks) H) E H):SWP L n0 N c Q E H:=by
 subst h;exact SWP.drawV hs k
theorem wCondT (h:c.tag=4) (hv:opval L.G E.get c.c=some (.bool true)) (k:SWP L n0 N c.l Q E H):SWP L n0 N c Q E H:=by
 cases c with
 | cond x a b=>exact SWP.cond (t:=true) hv k
 | ops d _ _=>cases d <;> cases h
 | _=>cases h
theorem wCondF (h:c.tag=4) (hv:opval L.G E.get c.c=some (.bool false)) (k:SWP L n0 N c.r Q E H):SWP L n0 N c Q E H:=by
 cases c with
 | cond x a b=>exact SWP.cond (t:=false) hv k
 | ops d _ _=>cases d <;> cases h
 | _=>cases h
theorem wLoop (h:c.tag=6) (I:Nat→Env→Heap→Prop) (m0:Nat) (h0:I m0 E H)
    (round:∀m E H,I m E H→SWP L n0 N c.l (AX.then (fun E' H'=>∃m',m' < m∧(I m' E' H'∨∃src fz,okSh n0 src=true∧I m' (E'.sh (sgOf H' src fz)) (H'.sh src fz))) Q) E H):SWP L n0 N c Q E H:=by
 cases c with
 | loop x=>exact SWP.loop I h0 round
 | ops d _ _=>cases d <;> cases h
 | _=>cases h
def qR (n0:Nat) (E1:Env) (H1:Heap) (P:Prop) (Q:Exit→Env→Heap→Prop):Exit→Env→Heap→Prop
 | .normal,E,H=>(E=E1∧H=H1∨∃src fz,okSh n0 src=true∧E.sh (sgOf H src fz)=E1∧H.sh src fz=H1)∧P
 | e,E,H=>Q e E H
theorem qR_e {E1:Env} {H1:Heap} {P:Prop} {i:Nat}:qR n0 E1 H1 P Q (.exit i) E H=Q (.exit i) E H:=rfl
theorem qR_r {E1:Env} {H1:Heap} {P:Prop}:qR n0 E1 H1 P Q .ret E H=Q .ret E H:=rfl
theorem qR_n {E1:Env} {H1:Heap} {P:Prop} (hE:E=E1) (hH:H=H1) (hP:P):qR n0 E1 H1 P Q .normal E H:=⟨.inl ⟨hE,hH⟩,hP⟩
theorem qR_s {E1:Env} {H1:Heap} {P:Prop} (src:List (Option Nat)) (fz:List Nat) (ho:okSh n0 src=true) (hE:E.sh (sgOf H src fz)=E1) (hH:H.sh src fz=H1) (hP:P):qR n0 E1 H1 P Q .normal E H:=⟨.inr ⟨src,fz,ho,hE,hH⟩,hP⟩
theorem wUp (h:c.tag=6) (n:Nat) (ES:Nat→Env) (HS:Nat→Heap) (I:Nat→Prop) (hE:E=ES 0) (hH:H=HS 0) (h0:I 0)
    (round:∀j,j < n→I j→SWP L n0 N c.l (qR n0 (ES (j+1)) (HS (j+1)) (I (j+1)) Q) (ES j) (HS j))
    (last:I n→SWP L n0 N c.l (qR n0 [] [] False Q) (ES n) (HS n)):SWP L n0 N c Q E H:=by
 refine wLoop h (fun m E H=>∃j,j+m=n∧E=ES j∧H=HS j∧I j) n ⟨0,by omega,hE,hH,h0⟩ ?_
 rintro m _ _ ⟨j,hj,rfl,rfl,hI⟩
 by_cases hlt:j < n
 ·refine SWP.mono (round j hlt hI) ?_
  intro e E' H' hq
  cases e with
  | normal=>
   obtain ⟨hq,hP⟩:=hq
   refine ⟨m - 1,by omega,?_⟩
   rcases hq with ⟨h1,h2⟩|⟨src,fz,ho,h1,h2⟩
   ·exact .inl ⟨j+1,by omega,h1,h2,hP⟩
   ·exact .inr ⟨src,fz,ho,j+1,by omega,h1,h2,hP⟩
  | _=>exact hq
 ·obtain rfl:j=n:=by omega
  refine SWP.mono (last hI) ?_
  intro e E' H' hq
  cases e with
  | normal=>exact absurd hq.2 id
  | _=>exact hq
end
attribute [push_cast] qN_n qN_e qN_r qB_n qB_e qB_r qR_e qR_r
theorem VFn.start {L:Lib} {k:Nat} {vs:List V} {r:V} {F:AFunc} (hT:L.T k=some F) (hn:vs.length=F.nargs) (hvs:V.closeds vs=true) (hr:r.closed=true) (h:SWP L 0 F.ntmps F.body (FnQ F 0 (fun r' H'=>r'=r∧H'=[])) (argE vs 0) []):VFn L k vs r:=VFn.of_body hT hn hvs hr h
theorem argE_nil (i:Nat):argE [] i=[]:=rfl
theorem argE_cons (v:V) (r:List V) (i:Nat):argE (v::r) i=(i,v)::argE r (i+1):=rfl
attribute [push_cast] argE_nil argE_cons
end Go.Proofs.YtigdhgbkgfagiaaGreat
namespace Go.Proofs.YtigdhgbkgfagiaaGreat
inductive Stp (L:Lib) (n0 N:Nat) (c:AC) (Q:Exit→Env→Heap→Prop) (E:Env) (H:Heap):Nat→Option V→Prop→Prop
 | seq {v}:Stp L n0 N c Q E H 3 v (SWP L n0 N c.l (qN L n0 N c.r Q) E H)
 | block {v}:Stp L n0 N c Q E H 5 v (SWP L n0 N c.l (qB c.id Q) E H)
 | skip {v}:Stp L n0 N c Q E H 0 v (Q .normal E H)
 | exit {v}:Stp L n0 N c Q E H 8 v (Q (.exit c.id) E H)
 | ret {v}:Stp L n0 N c Q E H 9 v (Q .ret E H)
 | condT:Stp L n0 N c Q E H 4 (some (.bool true)) (SWP L n0 N c.l Q E H)
 | condF:Stp L n0 N c Q E H 4 (some (.bool false)) (SWP L n0 N c.r Q E H)
section
variable {L:Lib} {n0 N:Nat} {Q:Exit→Env→Heap→Prop} {E:Env} {H:Heap} {c:AC} {R:Prop}
theorem Z0 (k:R) (h:Stp L n0 N c Q E H c.tag (opval L.G E.get c.c) R:=by constructor):SWP L n0 N c Q E H:=by
 generalize ht:c.tag=t at h
 generalize hv:opval L.G E.get c.c=v at h
 cases h with
 | seq=>exact wSeq ht k
 | block=>exact wBlock ht k
 | skip=>exact wSkip ht k
 | exit=>exact wExit ht k
 | ret=>exact wRet ht k
 | condT=>exact wCondT ht hv k
 | condF=>exact wCondF ht hv k
theorem Z1 {l:List AI} {ks:List Nat} (k:opsP L l (fun E H=>Q .normal (E.kill ks) H) E H) (h:c=.ops false l ks:=by exact rfl):SWP L n0 N c Q E H:=wOpsP h k
theorem Z2 {l:List AI} {ks:List Nat} (k:opsV [] L l (fun E H=>Q .normal (E.kill ks) H) E H) (h:c=.ops true l ks:=by exact rfl) (hs:safeV [] l [] []=true:=by exact rfl):SWP L n0 N c Q E H:=wDraw h hs k
theorem Z3 {l:List AI} {ks:List Nat} (k:opsV [] L l (fun E H=>Q .normal (E.kill ks) H) E H) (h:c=.ops false l ks:=by exact rfl):SWP L n0 N c Q E H:=wOps h k
end
end Go.Proofs.YtigdhgbkgfagiaaGreat
namespace Go.Proofs.YtigdhgbkgfagiaaGreat
theorem wrap_nat {n:Nat} (h:n < 9223372036854775808):IntKind.i64.wrap (n:Int)=n:=by
 have:Nat.blt n (limN .i64)=true:=Nat.ble_eq_true_of_le h
 exact wrap_pos this
theorem wrap_i64 {n:Int} (h1:-9223372036854775808≤n) (h2:n < 9223372036854775808):IntKind.i64.wrap n=n:=by
 cases n with
 | ofNat m=>exact wrap_nat (by have:((m:Nat):Int) < _:=h2;omega)
 | negSucc m=>
  have h3:m < 9223372036854775808:=by rw [Int.negSucc_eq] at h1;omega
  have:Nat.blt m (negN .i64)=true:=Nat.ble_eq_true_of_le h3
  exact wrap_neg this
theorem wrap_succ {j:Nat} (h:j < 9223372036854775807):IntKind.i64.wrap ((j:Int)+1)=(j:Int)+1:=wrap_i64 (by omega) (by omega)
def tl {α:Type} (f:α→List V) (s:Nat) (l:List α) (c:Option Nat):V:=.lst s (l.map f) c
section
variable {α:Type} {f:α→List V} {s:Nat} {l:List α} {c:Option Nat} {i:Nat} {x:α}
theorem lenQ_tl:lenQ (tl f s l c)=some (.int .i64 l.length):=by simp [lenQ,tl]
theorem iaQ_tl (h:i < l.length):iaQ s (tl f s l c) i=some (.iptr s (l.map f) i 0):=by simp [iaQ,tl,h]
theorem row_tl:(l.map f)[i]?=(l[i]?).map f:=List.getElem?_map
theorem sliceV_hi {n:Nat} (hs:s≠0∧s≠1000003) (h:n≤l.length):sliceV s (tl f s l c) (some none) (some (some n)) (some none)=some (tl f s (l.take n) (c.map (· - 0))):=by
 unfold sliceV tl
 simp [hs,h,List.map_take]
theorem one_ok:(1:Nat)≠0∧(1:Nat)≠1000003:=⟨by decide,by decide⟩
theorem isVal_tl:V.isVal (tl f s l c)=true:=rfl
theorem cells_tl:V.cells (tl f s l c)=[tl f s l c]:=rfl
theorem bind_some' {β γ:Type} {a:β} {g:β→Option γ}:(some a).bind g=g a:=rfl
end
attribute [push_cast] lenQ_tl row_tl isVal_tl cells_tl bind_some'
def Env.sets:Env→List (Nat×V)→Env
 | E,[]=>E
 | E,p::r=>Env.sets (E.set p.1 p.2) r
theorem sets_nil {E:Env}:E.sets []=E:=rfl
theorem sets_cons {E:Env} {t:Nat} {v:V} {r:List (Nat×V)}:E.sets ((t,v)::r)=(E.set t v).sets r:=rfl
attribute [push_cast] sets_nil sets_cons
section
variable {L:Lib} {n0 N:Nat} {Q:Exit→Env→Heap→Prop} {E:Env} {H:Heap} {c:AC}
theorem wCntH (h:c.tag=6) (r n:Nat) (rs:Nat→List (Nat×V)) (HS:Nat→Heap) (I:Nat→Prop) (hE:E=(E.set r (.int .i64 0)).sets (rs 0)) (hH:H=HS 0) (h0:I 0)
    (round:∀j,j < n→I j→SWP L n0 N c.l (qR n0 ((E.set r (.int .i64 ((j+1:Nat):Int))).sets (rs (j+1))) (HS (j+1)) (I (j+1)) Q) ((E.set r (.int .i64 (j:Int))).sets (rs j)) (HS j))
    (last:I n→SWP L n0 N c.l (qR n0 [] [] False Q) ((E.set r (.int .i64 (n:Int))).sets (rs n)) (HS n)):SWP L n0 N c Q E H:=
 wUp h n (fun j=>(E.set r (.int .i64 (j:Int))).sets (rs j)) HS I hE hH h0 round last
theorem wCnt (h:c.tag=6) (r n:Nat) (rs:Nat→List (Nat×V)) (I:Nat→Prop) (hE:E=(E.set r (.int .i64 0)).sets (rs 0)) (h0:I 0)
    (round:∀j,j < n→I j→SWP L n0 N c.l (qR n0 ((E.set r (.int .i64 ((j+1:Nat):Int))).sets (rs (j+1))) H (I (j+1)) Q) ((E.set r (.int .i64 (j:Int))).sets (rs j)) H)
    (last:I n→SWP L n0 N c.l (qR n0 [] [] False Q) ((E.set r (.int .i64 (n:Int))).sets (rs n)) H):SWP L n0 N c Q E H:=
 wUp h n (fun j=>(E.set r (.int .i64 (j:Int))).sets (rs j)) (fun _=>H) I hE rfl h0 round last
def qW {σ:Type} (n0:Nat) (ES:σ→Env) (HS:σ→Heap) (P:σ→Prop) (Q:Exit→Env→Heap→Prop):Exit→Env→Heap→Prop
 | .normal,E,H=>∃s,(E=ES s∧H=HS s∨∃src fz,okSh n0 src=true∧E.sh (sgOf H src fz)=ES s∧H.sh src fz=HS s)∧P s
 | e,E,H=>Q e E H
theorem qW_e {σ:Type} {ES:σ→Env} {HS:σ→Heap} {P:σ→Prop} {i:Nat}:qW n0 ES HS P Q (.exit i) E H=Q (.exit i) E H:=rfl
theorem qW_r {σ:Type} {ES:σ→Env} {HS:σ→Heap} {P:σ→Prop}:qW n0 ES HS P Q .ret E H=Q .ret E H:=rfl
theorem qW_n {σ:Type} {ES:σ→Env} {HS:σ→Heap} {P:σ→Prop} (s:σ) (hE:E=ES s) (hH:H=HS s) (hP:P s):qW n0 ES HS P Q .normal E H:=⟨s,.inl ⟨hE,hH⟩,hP⟩
theorem qW_s {σ:Type} {ES:σ→Env} {HS:σ→Heap} {P:σ→Prop} (s:σ) (src:List (Option Nat)) (fz:List Nat) (ho:okSh n0 src=true) (hE:E.sh (sgOf H src fz)=ES s) (hH:H.sh src fz=HS s) (hP:P s):qW n0 ES HS P Q .normal E H:=⟨s,.inr ⟨src,fz,ho,hE,hH⟩,hP⟩
theorem wWhile {σ:Type} (h:c.tag=6) (ES:σ→Env) (HS:σ→Heap) (μ:σ→Nat) (I:σ→Prop) (s0:σ) (hE:E=ES s0) (hH:H=HS s0) (h0:I s0)
    (round:∀s,I s→SWP L n0 N c.l (qW n0 ES HS (fun s'=>μ s' < μ s∧I s') Q) (ES s) (HS s)):SWP L n0 N c Q E H:=by
 refine wLoop h (fun m E H=>∃s,μ s=m∧E=ES s∧H=HS s∧I s) (μ s0) ⟨s0,rfl,hE,hH,h0⟩ ?_
 rintro m _ _ ⟨s,rfl,rfl,rfl,hI⟩
 refine SWP.mono (round s hI) ?_
 intro e E' H' hq
 cases e with
 | normal=>
  obtain ⟨s',hq,hm,hI'⟩:=hq
  refine ⟨μ s',hm,?_⟩
  rcases hq with ⟨h1,h2⟩|⟨src,fz,ho,h1,h2⟩
  ·exact .inl ⟨s',rfl,h1,h2,hI'⟩
  ·exact .inr ⟨src,fz,ho,s',rfl,h1,h2,hI'⟩
 | _=>exact hq
theorem wPad (src:List (Option Nat)) {H1:Heap} (ho:okSh n0 src=true) (hE:E.sh (sgOf H src [])=E) (hH:H.sh src []=H1) (k:SWP L n0 N c Q E H1):SWP L n0 N c Q E H:=by
 refine SWP.shift src [] ho ?_
 rw [hE,hH];exact k
theorem wShift (src:List (Option Nat)) (fz:List Nat) {E1:Env} {H1:Heap} (ho:okSh n0 src=true) (hE:E.sh (sgOf H src fz)=E1) (hH:H.sh src fz=H1) (k:SWP L n0 N c Q E1 H1):SWP L n0 N c Q E H:=by
 refine SWP.shift src fz ho ?_
 rw [hE,hH];exact k
end
attribute [push_cast] qW_e qW_r
theorem size_of {s n:Nat} {α:Type} {l:List α} (h:s=n∨l=[]) {i:Nat} (hi:i < l.length):s=n:=by
 rcases h with h|h
 ·exact h
 ·subst h;simp at hi
theorem get_of {α:Type} {l:List α} {i:Nat} (h:i < l.length):∃x,l[i]?=some x∧x∈l:=⟨l[i],List.getElem?_eq_getElem h,List.getElem_mem h⟩
theorem take_snoc {α:Type} {l:List α} {j:Nat} {x:α} (h:l[j]?=some x):l.take (j+1)=l.take j++[x]:=by rw [List.take_add_one,h];rfl
theorem take_all {α:Type} {l:List α}:l.take l.length=l:=List.take_length
theorem ne_both {α:Type} {a b:α} (h:a≠b):(a=b↔False)∧(b=a↔False):=⟨⟨h,False.elim⟩,⟨fun e=>h e.symm,False.elim⟩⟩
def mrow (m:Int):List V:=[.int .i64 m]
def brow (b:Bool):List V:=[.bool b]
theorem brow_eq (b:Bool):brow b=[.bool b]:=rfl
attribute [push_cast] brow_eq
theorem mrow_eq (m:Int):mrow m=[.int .i64 m]:=rfl
theorem ren_row {r:List V} (h:r.all V.closed=true) (σ:Nat→Sg):r.map (V.ren σ)=r:=by
 induction r with
 | nil=>rfl
 | cons v r ih=>
  simp only [List.all_cons,Bool.and_eq_true] at h
  rw [List.map_cons,V.ren_closed σ h.1,ih h.2]
theorem ren_tl {α:Type} {f:α→List V} (hf:∀x,(f x).all V.closed=true) {σ:Nat→Sg} {n:Nat} {l:List α}:Blk.ren σ (.arr n (l.map f))=.arr n (l.map f):=by
 unfold Blk.ren
 dsimp only
 rw [List.map_map]
 congr 1
 exact List.map_congr_left fun x _=>ren_row (hf x) σ
theorem closed_mrow (x:Int):(mrow x).all V.closed=true:=rfl
theorem sh_n {F:Option Nat→Option Blk}:List.map F []=[]:=rfl
theorem sh_c {F:Option Nat→Option Blk} {o:Option Nat} {b:Option Blk} {src:List (Option Nat)} {bs:List (Option Blk)} (h1:F o=b) (h2:src.map F=bs):List.map F (o::src)=b::bs:=by rw [List.map_cons,h1,h2]
theorem sh_b {α:Type} {f:α→List V} (hf:∀x,(f x).all V.closed=true) {H:Heap} {σ:Nat→Sg} {a n:Nat} {l:List α} (h:H.get a=some (.arr n (l.map f))):((some a).bind fun a=>(H.get a).map (Blk.ren σ))=some (.arr n (l.map f)):=by
 show (H.get a).map (Blk.ren σ)=_
 rw [h,Option.map_some,ren_tl hf]
theorem closeds_tl {α:Type} {f:α→List V} (hf:∀x,(f x).all V.closed=true) {n:Nat} {l:List α}:(Blk.arr n (l.map f)).closed=true:=by
 unfold Blk.closed
 exact List.all_eq_true.2 fun row h=>by
  obtain ⟨x,_,rfl⟩:=List.mem_map.1 h
  exact hf x
theorem frz_ref {α:Type} {f:α→List V} (hf:∀x,(f x).all V.closed=true) {H:Heap} {fz:List Nat} {a n:Nat} {l:List α} {c:Option Nat} (hn:0 < n) (ha:fz.contains a=true) (h:H.get a=some (.arr n (l.map f))):V.ren (sgOf H [] fz) (.ref a n 0 l.length c)=tl f n l c:=by
 have e:sgOf H [] fz a=.frz n (l.map f):=by
  unfold sgOf
  simp only [posIn,ha,h,closeds_tl hf,cond_true]
 rw [V.ren,e]
 simp only [true_and,hn,Nat.zero_add,List.length_map,Nat.le_refl,and_self,if_true,List.drop_zero]
 rw [List.take_of_length_le (by simp)];rfl
theorem FnQ.frz {F:AFunc} {E:Env} {H:Heap} {r0 r:V} (fz:List Nat) (h:resV E.get H.get F.results=some r0) (hr:r0.ren (sgOf H [] fz)=r):FnQ F 0 (fun r' H'=>r'=r∧H'=[]) .ret E H:=by
 have:ResP F.results 0 (fun r' H'=>r'=r∧H'=[]) E H:=by
  unfold ResP
  rw [h]
  exact .inr ⟨[],fz,rfl,hr,rfl⟩
 exact this
def accV {α:Type} (a n:Nat) (r:List α):V:=if r=[] then .lst 0 [] (some 0) else .ref a n 0 r.length none
def accB {α:Type} (f:α→List V) (n:Nat) (r:List α):Option Blk:=if r=[] then none else some (.arr n (r.map f))
section
variable {α:Type} {a n:Nat} {r:List α} {f:α→List V} {x:α}
theorem accV_nil:accV a n ([]:List α)=.lst 0 [] (some 0):=rfl
theorem accV_cons (h:r≠[]):accV a n r=.ref a n 0 r.length none:=if_neg h
theorem accB_nil:accB f n ([]:List α)=none:=rfl
theorem accB_cons (h:r≠[]):accB f n r=some (.arr n (r.map f)):=if_neg h
theorem accV_one:accV a n [x]=.ref a n 0 1 none:=rfl
theorem accB_one:accB f n [x]=some (.arr n [f x]):=rfl
theorem accV_snoc:accV a n (r++[x])=.ref a n 0 (r.length+1) none:=by rw [accV_cons (by simp),List.length_append];rfl
theorem accB_snoc:accB f n (r++[x])=some (.arr n ((r++[x]).map f)):=accB_cons (by simp)
theorem isVal_acc:V.isVal (accV a n r)=true:=by unfold accV;split <;> rfl
theorem cells_acc:V.cells (accV a n r)=[accV a n r]:=by unfold accV;split <;> rfl
end
theorem frz_acc {α:Type} {f:α→List V} (hf:∀x,(f x).all V.closed=true) {H:Heap} {fz:List Nat} {a n:Nat} {r:List α} (hn:0 < n) (ha:fz.contains a=true) (h:H.get a=accB f n r):∃s c,(s=n∨r=[])∧V.ren (sgOf H [] fz) (accV a n r)=tl f s r c:=by
 by_cases hr:r=[]
 ·subst hr;exact ⟨0,some 0,.inr rfl,rfl⟩
 ·rw [accB_cons hr] at h
  exact ⟨n,none,.inl rfl,by rw [accV_cons hr];exact frz_ref hf hn ha h⟩
theorem roomOk_eq {n b:Nat}:roomOk n b=decide (n*b≤140737488355328):=rfl
theorem nat?_add {k:IntKind} {n m:Nat}:V.nat? (.int k ((n:Int)+(m:Int)))=some (n+m):=by
 simp [V.nat?];omega
theorem nat?_add1 {k:IntKind} {n:Nat}:V.nat? (.int k ((n:Int)+1))=some (n+1):=nat?_add (m:=1)
theorem nat?_l0 {k:IntKind}:V.nat? (.int k 0)=some 0:=rfl
theorem nat?_l1 {k:IntKind}:V.nat? (.int k 1)=some 1:=rfl
theorem nat?_l2 {k:IntKind}:V.nat? (.int k 2)=some 2:=rfl
theorem nat?_l3 {k:IntKind}:V.nat? (.int k 3)=some 3:=rfl
theorem nat?_l4 {k:IntKind}:V.nat? (.int k 4)=some 4:=rfl
theorem nat?_l5 {k:IntKind}:V.nat? (.int k 5)=some 5:=rfl
theorem nat?_l6 {k:IntKind}:V.nat? (.int k 6)=some 6:=rfl
theorem nat?_l7 {k:IntKind}:V.nat? (.int k 7)=some 7:=rfl
theorem nat?_l8 {k:IntKind}:V.nat? (.int k 8)=some 8:=rfl
theorem nat?_l9 {k:IntKind}:V.nat? (.int k 9)=some 9:=rfl
theorem nat?_l10 {k:IntKind}:V.nat? (.int k 10)=some 10:=rfl
theorem nat?_l11 {k:IntKind}:V.nat? (.int k 11)=some 11:=rfl
theorem nat?_l12 {k:IntKind}:V.nat? (.int k 12)=some 12:=rfl
theorem nat?_l13 {k:IntKind}:V.nat? (.int k 13)=some 13:=rfl
theorem nat?_l14 {k:IntKind}:V.nat? (.int k 14)=some 14:=rfl
theorem nat?_l15 {k:IntKind}:V.nat? (.int k 15)=some 15:=rfl
theorem nat?_l16 {k:IntKind}:V.nat? (.int k 16)=some 16:=rfl
theorem add_sub1 {a:Int}:a+1 - 1=a:=by omega
attribute [push_cast] isVal_acc cells_acc roomOk_eq or_true true_or or_false false_or List.length_map gt_iff_lt ge_iff_le eq_self nat?_add nat?_add1 nat?_l0 nat?_l1 nat?_l2 nat?_l3 nat?_l4 nat?_l5 nat?_l6 nat?_l7 nat?_l8 nat?_l9 nat?_l10 nat?_l11 nat?_l12 nat?_l13 nat?_l14 nat?_l15 nat?_l16 add_sub1 mrow_eq Int.ofNat_lt Int.ofNat_le Int.ofNat_inj Nat.lt_irrefl Nat.le_refl
end Go.Proofs.YtigdhgbkgfagiaaGreat
