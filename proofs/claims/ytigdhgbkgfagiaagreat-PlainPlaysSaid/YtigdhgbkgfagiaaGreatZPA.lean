/- The model of an election: what deeds keep; Play, walked. · The model of an election: Play, walked. -/
import Derived.Test.YtigdhgbkgfagiaaGreatZP9
import Derived.Test.YtigdhgbkgfagiaaGreatZM2
set_option maxRecDepth 100000
set_option maxHeartbeats 4000000
set_option linter.unusedVariables false
set_option linter.unusedSimpArgs false
namespace Go.Proofs.YtigdhgbkgfagiaaGreat
theorem get_nonneg {m:Mp Int} (h:∀p∈m.es,0≤p.2) (k:List UInt8):0≤(m.get k).getD 0:=by
 unfold Mp.get
 cases idxS k m.es 0 with
 | none=>exact Int.le_refl _
 | some i=>
  rw [Option.bind_some]
  cases hi:m.es[i]? with
  | none=>exact Int.le_refl _
  | some p=>exact h p (List.mem_of_getElem? hi)
theorem set_nonneg {m:Mp Int} (h:∀p∈m.es,0≤p.2) {k:List UInt8} {x:Int} (hx:0≤x):∀p∈(m.set k x).es,0≤p.2:=by
 intro p hp
 unfold Mp.set at hp
 split at hp
 ·rcases List.mem_or_eq_of_mem_set hp with hp|rfl
  ·exact h p hp
  ·exact hx
 ·rcases List.mem_append.1 hp with hp|hp
  ·exact h p hp
  ·have:p=(k,x):=by simpa using hp
   subst this;exact hx
structure StI (s:Ms) (j:Nat):Prop where
 ok:MsOk s
 ba:∀p∈s.ba.es,0≤p.2
 vs:s.vs.length≤j
theorem accept_keeps {t:Tm} {s:Ms} {j:Nat} (h:StI s j) (d:Dd):StI (acceptS t s d).1 (j+1):=by
 obtain ⟨⟨h1,h2,h3,h4,h5⟩,h6,h7⟩:=h
 have h0:StI s (j+1):=⟨⟨h1,h2,h3,h4,h5⟩,h6,by omega⟩
 unfold acceptS
 split
 ·unfold enrolS
  split
  ·exact h0
  ·exact ⟨⟨h1,h2.set _ _,h3.set _ _,h4,h5⟩,h6,by show s.vs.length≤_;omega⟩
 split
 ·unfold turnS
  split
  ·exact h0
  ·rename_i hp
   have:s.ph=0:=by simp at hp;exact hp
   exact ⟨⟨by show 0≤s.ph+1∧s.ph+1≤2;omega,h2,h3,h4,h5⟩,h6,by show s.vs.length≤_;omega⟩
 split
 ·unfold issueS
  split
  ·exact h0
  ·exact ⟨⟨h1,h2,h3.del _,h4.set _ _,h5⟩,h6,by show s.vs.length≤_;omega⟩
 split
 ·unfold returnS
  split
  ·exact h0
  ·exact ⟨⟨h1,h2,h3.set _ _,h4.del _,h5⟩,h6,by show s.vs.length≤_;omega⟩
 split
 ·unfold castS
  split
  ·exact h0
  split
  ·exact h0
  split
  ·exact h0
  ·have:=get_nonneg h6 d.batch
   exact ⟨⟨h1,h2,h3,h4.del _,h5.set _ _⟩,set_nonneg h6 (by omega),by simp;omega⟩
 split
 ·unfold turnS
  split
  ·exact h0
  ·rename_i hp
   have:s.ph=1:=by simp at hp;exact hp.1
   exact ⟨⟨by show 0≤s.ph+1∧s.ph+1≤2;omega,h2,h3,h4,h5⟩,h6,by show s.vs.length≤_;omega⟩
 ·exact h0
def ms0:Ms:=⟨0,mp0,mp0,mp0,mp0,[]⟩
def stepS (t:Tm) (p:Ms×List Bool) (d:Dd):Ms×List Bool:=((acceptS t p.1 d).1,p.2++[(acceptS t p.1 d).2])
def foldS (t:Tm) (l:List Dd):Ms×List Bool:=l.foldl (stepS t) (ms0,[])
theorem foldS_snoc {t:Tm} {l:List Dd} {d:Dd}:foldS t (l++[d])=stepS t (foldS t l) d:=by unfold foldS;rw [List.foldl_append];rfl
theorem fold_keeps' {t:Tm}:∀(l:List Dd) (p:Ms×List Bool) (j:Nat),StI p.1 j→StI (l.foldl (stepS t) p).1 (j+l.length)
 | [],_,_,h=>h
 | d::l,p,j,h=>by
  rw [List.foldl_cons,List.length_cons,show j+(l.length+1)=(j+1)+l.length by omega]
  exact fold_keeps' l _ _ (accept_keeps h d)
theorem fold_keeps {t:Tm} (l:List Dd):StI (foldS t l).1 l.length:=by
 have:=fold_keeps' (t:=t) l (ms0,[]) 0 ⟨⟨⟨by decide,by decide⟩,mpOk0,mpOk0,mpOk0,mpOk0⟩,fun p h=>(by cases h),Nat.le_refl _⟩
 rw [Nat.zero_add] at this
 exact this
theorem fold_acc' {t:Tm}:∀(l:List Dd) (p:Ms×List Bool),(l.foldl (stepS t) p).2.length=p.2.length+l.length
 | [],_=>rfl
 | d::l,p=>by
  rw [List.foldl_cons,List.length_cons,fold_acc' l]
  unfold stepS
  simp only [List.length_append,List.length_singleton];omega
theorem fold_acc {t:Tm} (l:List Dd):(foldS t l).2.length=l.length:=by
 unfold foldS
 rw [fold_acc'];exact Nat.zero_add _
def lsV {α:Type} (f:α→List V) (n:Nat) (l:List α):V:=if l=[] then nilV else tl f n l none
theorem closed_lsV {α:Type} {f:α→List V} {n:Nat} {l:List α}:(lsV f n l).closed=true:=by unfold lsV;split <;> rfl
def playF (t:Tm) (l:List Dd):List Bool×List (Int×List Int)×Int:=
 if okTerms t=false then ([],[],8) else if 512 < l.length then ([],[],4) else ((foldS t l).2,(foldS t l).1.vs,0)
def playV (t:Tm) (l:List Dd):V:=.tup [lsV brow 1 (playF t l).1,lsV vrow 2 (playF t l).2.1,.int .i64 (playF t l).2.2]
end Go.Proofs.YtigdhgbkgfagiaaGreat
namespace Go.Proofs.YtigdhgbkgfagiaaGreat
theorem closed_playV (t:Tm) (l:List Dd):(playV t l).closed=true:=by
 simp [playV,V.closed,V.closeds,closed_lsV]
def plH (t:Tm) (p:Ms×List Bool):Heap:=[some (.arr 20 [modK t p.1 5]),some (mapB V.bool p.1.en),some (mapB V.bool p.1.fr),some (mapB V.bool p.1.ho),some (mapB (V.int .i64) p.1.ba),accB vrow 2 p.1.vs,accB brow 1 p.2]
theorem accB_brn {σ:Nat→Sg} {l:List Bool}:(accB brow 1 l).map (Blk.ren σ)=accB brow 1 l:=by
 unfold accB
 split
 ·rfl
 ·rw [Option.map_some,ren_tl closed_brw]
theorem pl_shift {H:Heap} {t:Tm} {s:Ms} {l:List Bool} {k a:Nat} (hk:posIn [some 0,some 1,some 2,some 3,some 4,some k,some a] k 0=some 5) (h0:H.get 0=some (.arr 20 [modK t s k])) (h1:H.get 1=some (mapB V.bool s.en)) (h2:H.get 2=some (mapB V.bool s.fr)) (h3:H.get 3=some (mapB V.bool s.ho)) (h4:H.get 4=some (mapB (V.int .i64) s.ba)) (h5:H.get k=accB vrow 2 s.vs) (h6:H.get a=accB brow 1 l):H.sh [some 0,some 1,some 2,some 3,some 4,some k,some a] []=plH t (s,l):=by
 have hσ:∀a',1≤a'→a'≤4→sgOf H [some 0,some 1,some 2,some 3,some 4,some k,some a] [] a'=.to a':=fun a h1 h2=>by
  match a,h1,h2 with
  | 1,_,_=>rfl
  | 2,_,_=>rfl
  | 3,_,_=>rfl
  | 4,_,_=>rfl
  | 0,h,_=>exact absurd h (by omega)
  | n+5,_,h=>exact absurd h (by omega)
 have hσk:sgOf H [some 0,some 1,some 2,some 3,some 4,some k,some a] [] k=.to 5:=by unfold sgOf;rw [hk]
 refine sh_c ?_ (sh_c ?_ (sh_c ?_ (sh_c ?_ (sh_c ?_ (sh_c ?_ (sh_c ?_ sh_n))))))
 ·show (H.get 0).map _=_
  rw [h0,Option.map_some,modK_ren hσ hσk]
 ·show (H.get 1).map _=_
  rw [h1,Option.map_some,mapB_ren fun _=>rfl]
 ·show (H.get 2).map _=_
  rw [h2,Option.map_some,mapB_ren fun _=>rfl]
 ·show (H.get 3).map _=_
  rw [h3,Option.map_some,mapB_ren fun _=>rfl]
 ·show (H.get 4).map _=_
  rw [h4,Option.map_some,mapB_ren fun _=>rfl]
 ·show (H.get k).map _=_
  rw [h5,accB_ren]
 ·show (H.get a).map _=_
  rw [h6,accB_brn]
theorem ddrow_eq (d:Dd):ddrow d=[.int .u8 d.kind,.str d.name,.int .i64 d.prec,.str d.batch,nlv urow 1 d.boxes,nlv drow 2 d.decs,nlv sdrow 1 d.seeds,nlv hbrow 2 d.hand]:=rfl
theorem cells_mapp {a:Nat}:V.cells (.mapp a)=[.mapp a]:=rfl
theorem isVal_mapp {a:Nat}:V.isVal (.mapp a)=true:=rfl
theorem ren_bl {σ:Nat→Sg} {b:Bool}:V.ren σ (.bool b)=.bool b:=rfl
attribute [push_cast] cells_mapp isVal_mapp ren_bl
variable {L:Lib} (hL:L.T=tab.get)
include hL
theorem play_loop {t:Tm} {l:List Dd} {s:Nat} {c:Option Nat} (ht:okTm t) (hl:∀d∈l,okDd d) (hs:s=8∨l=[]) (hn:l.length≤512):SWP L 0 T17.val.ntmps T17.val.body.r.r.r.r.l.r.l
    (qB T17.val.body.r.r.r.r.l.r.id
     (qN L 0 T17.val.ntmps T17.val.body.r.r.r.r.r
      (FnQ T17.val 0 fun r' H'=>r'=V.tup [lsV brow 1 (foldS t l).2,lsV vrow 2 (foldS t l).1.vs,V.int IntKind.i64 0]∧H'=[])))
    [(4,V.lst 0 [] (some 0)),(9,V.ptr 0 20 0 0),(30,tl ddrow s l c),(31,V.int .i64 l.length),(32,V.int .i64 0)] (plH t (ms0,[])):=by
 refine wCntH rfl 32 l.length (fun j=>[(4,accV 6 1 (foldS t (l.take j)).2)]) (fun j=>plH t (foldS t (l.take j))) (fun _=>True) rfl rfl trivial ?_ ?_
 ·intro j hj _
  obtain ⟨d,hx,hm⟩:=get_of hj
  obtain rfl:=size_of hs hj
  have hw:=wrap_succ (show j < 9223372036854775807 by omega)
  have hk:=fold_keeps (t:=t) (l.take j)
  have ha:=fold_acc (t:=t) (l.take j)
  rw [take_snoc hx,foldS_snoc]
  unfold stepS
  generalize foldS t (l.take j)=P at *
  obtain ⟨S,A⟩:=P
  dsimp only at hk ha ⊢
  have hlt:(l.take j).length≤j:=List.length_take_le ..
  have ka:=accept_a hL (t:=t) (s:=S) (d:=d) hk.ok (get_nonneg hk.ba) (by have:=hk.vs;omega) ht (hl d hm)
  have hdd:∀σ,V.ren σ (.agg (ddrow d))=.agg (ddrow d):=fun σ=>V.ren_closed σ (closed_dd d)
  generalize acceptS t S d=R at *
  have hroom:(A.length+1)*1≤140737488355328:=by omega
  unfold plH modK
  rw [accV_snoc]
  by_cases hA:A=[]
  ·subst hA
   rw [accV_nil,accB_nil]
   refine Wf0 (Q4 (show (j:Int) < l.length by omega) (iT hj) hx @ddrow_eq) ?_
   refine opsP_frm [0,1,2,3,4,5] rfl rfl rfl (congrArg (fun v=>[V.ptr 0 20 0 0,v]) (hdd _)) (st_shift (t:=t) (s:=S) rfl rfl rfl rfl rfl rfl rfl) ka ?_
   rintro r h' ⟨rfl,rfl|rfl⟩
   ·refine Eq.mpr (congrArg (opsP L _ _ _) (st_back (t:=t) (s:=S) (s':=R.1) (X:=[_,_]) rfl)) ?_
    unfold stH modK
    refine Wf0 hw ?_
    refine qR_s [some 0,some 1,some 2,some 3,some 4,some 5,some 9] [] rfl rfl ?_ trivial
    refine Eq.trans (pl_shift (t:=t) (s:=R.1) (l:=[R.2]) (k:=5) (a:=9) rfl rfl rfl rfl rfl rfl rfl ?_) rfl
    first|rfl|(rw [accB_snoc,List.map_append];rfl)
   ·refine Eq.mpr (congrArg (opsP L _ _ _) (st_back6 (t:=t) (s:=S) (s':=R.1))) ?_
    unfold st8 modK
    refine Wf0 hw ?_
    refine qR_s [some 0,some 1,some 2,some 3,some 4,some 8,some 10] [] rfl rfl ?_ trivial
    refine Eq.trans (pl_shift (k:=8) (a:=10) (t:=t) (s:=R.1) (l:=[R.2]) rfl rfl rfl rfl rfl rfl rfl ?_) rfl
    first|rfl|(rw [accB_snoc,List.map_append];rfl)
  ·rw [accV_cons hA,accB_cons hA]
   refine Wf0 (Q4 (show (j:Int) < l.length by omega) (iT hj) hx @ddrow_eq) ?_
   refine opsP_frm [0,1,2,3,4,5] rfl rfl rfl (congrArg (fun v=>[V.ptr 0 20 0 0,v]) (hdd _)) (st_shift (t:=t) (s:=S) rfl rfl rfl rfl rfl rfl rfl) ka ?_
   rintro r h' ⟨rfl,rfl|rfl⟩
   ·refine Eq.mpr (congrArg (opsP L _ _ _) (st_back (t:=t) (s:=S) (s':=R.1) (X:=[_,_]) rfl)) ?_
    unfold stH modK
    refine Xf0 (Q2 hw hroom) ?_
    refine qR_s [some 0,some 1,some 2,some 3,some 4,some 5,some 9] [] rfl rfl ?_ trivial
    refine Eq.trans (pl_shift (t:=t) (s:=R.1) (l:=A++[R.2]) (k:=5) (a:=9) rfl rfl rfl rfl rfl rfl rfl ?_) rfl
    first|rfl|(rw [accB_snoc,List.map_append];rfl)
   ·refine Eq.mpr (congrArg (opsP L _ _ _) (st_back6 (t:=t) (s:=S) (s':=R.1))) ?_
    unfold st8 modK
    refine Xf0 (Q2 hw hroom) ?_
    refine qR_s [some 0,some 1,some 2,some 3,some 4,some 8,some 10] [] rfl rfl ?_ trivial
    refine Eq.trans (pl_shift (k:=8) (a:=10) (t:=t) (s:=R.1) (l:=A++[R.2]) rfl rfl rfl rfl rfl rfl rfl ?_) rfl
    first|rfl|(rw [accB_snoc,List.map_append];rfl)
 ·intro _
  rw [List.take_of_length_le (Nat.le_refl _)]
  generalize foldS t l=P at *
  obtain ⟨S,A⟩:=P
  unfold plH modK
  refine Wn0 ?_
  by_cases hA:A=[]
  ·subst hA
   by_cases hS:S.vs=[]
   ·rw [hS]
    exact FnQ.frz [] rfl rfl
   ·rw [accV_nil,accV_cons hS,accB_cons hS,show lsV vrow 2 S.vs=tl vrow 2 S.vs none from if_neg hS]
    exact FnQ.frz [5] rfl (congrArg (fun v=>V.tup [nilV,v,.int .i64 0]) (frz_refS' (fz:=[5]) (src:=[]) closed_vrow (by decide) rfl rfl rfl))
  ·rw [accV_cons hA,accB_cons hA,show lsV brow 1 A=tl brow 1 A none from if_neg hA]
   by_cases hS:S.vs=[]
   ·rw [hS]
    exact FnQ.frz [6] rfl (congrArg (fun v=>V.tup [v,nilV,.int .i64 0]) (frz_refS' (fz:=[6]) (src:=[]) closed_brw (by decide) rfl rfl rfl))
   ·rw [accV_cons hS,accB_cons hS,show lsV vrow 2 S.vs=tl vrow 2 S.vs none from if_neg hS]
    exact FnQ.frz [5,6] rfl (congr (congrArg (fun u v=>V.tup [u,v,.int .i64 0]) (frz_refS' (fz:=[5,6]) (src:=[]) closed_brw (by decide) rfl rfl rfl)) (frz_refS' (fz:=[5,6]) (src:=[]) closed_vrow (by decide) rfl rfl rfl))
theorem play_v {t:Tm} {l:List Dd} {s:Nat} {c:Option Nat} (ht:okTm t) (hl:∀d∈l,okDd d) (hs:s=8∨l=[]):VFn L 17 [.agg (tmC t),tl ddrow s l c] (playV t l):=by
 have kb:=begin_v hL ht
 have v1:=isVal_clV (f:=srow) (n:=1) (o:=t.cands)
 have v2:=isVal_clV (f:=nrow) (n:=1) (o:=t.dnum)
 have v3:=isVal_clV (f:=nrow) (n:=1) (o:=t.dden)
 have v4:=isVal_clV (f:=nrow) (n:=1) (o:=t.lnum)
 have v5:=isVal_clV (f:=nrow) (n:=1) (o:=t.lden)
 have v6:=isVal_clV (f:=mrow) (n:=1) (o:=t.rounds)
 have c1:=cells_clV (f:=srow) (n:=1) (o:=t.cands)
 have c2:=cells_clV (f:=nrow) (n:=1) (o:=t.dnum)
 have c3:=cells_clV (f:=nrow) (n:=1) (o:=t.dden)
 have c4:=cells_clV (f:=nrow) (n:=1) (o:=t.lnum)
 have c5:=cells_clV (f:=nrow) (n:=1) (o:=t.lden)
 have c6:=cells_clV (f:=mrow) (n:=1) (o:=t.rounds)
 have hA:VFn L 9 [.agg (tmC t)] (begV t):=kb
 unfold playV playF
 unfold begV at kb
 refine VFn.start (F:=T17.1) (by rw [hL];rfl) rfl (by have h0:=hA.1;simp [V.closeds,V.closed,tl] at h0 ⊢;exact h0) (closed_playV t l) ?_
 unfold tmC tmT restC zeroTm nilV at kb
 simp only [List.replicate_succ,List.replicate_zero,List.cons_append,List.nil_append] at kb
 cases hok:okTerms t with
 | false=>
  rw [hok,if_neg (by simp)] at kb
  rw [if_pos rfl]
  unfold tmC
  refine Wn1 kb ?_
  exact FnQ.ret rfl rfl
 | true=>
  rw [hok,if_pos rfl] at kb
  rw [if_neg (by simp)]
  generalize clV srow 1 t.cands=w1 at *
  generalize clV nrow 1 t.dnum=w2 at *
  generalize clV nrow 1 t.dden=w3 at *
  generalize clV nrow 1 t.lnum=w4 at *
  generalize clV nrow 1 t.lden=w5 at *
  generalize clV mrow 1 t.rounds=w6 at *
  by_cases h5:512 < l.length
  ·rw [if_pos h5]
   unfold tmC
   refine Wf1 (show (512:Int) < l.length by omega) kb ?_
   exact FnQ.ret rfl rfl
  ·rw [if_neg h5]
   unfold tmC
   refine Wf1 (show ¬(512:Int) < l.length by omega) kb ?_
   refine wShift [some 6,some 2,some 3,some 4,some 5,none,none] [] (E1:=[(4,V.lst 0 [] (some 0)),(9,V.ptr 0 20 0 0),(30,tl ddrow s l c),(31,V.int .i64 l.length),(32,V.int .i64 0)]) (H1:=plH t (ms0,[])) rfl rfl ?_ (play_loop hL ht hl hs (by omega))
   refine sh_c ?_ (sh_c rfl (sh_c rfl (sh_c rfl (sh_c rfl (sh_c rfl (sh_c rfl sh_n))))))
   show some (Blk.arr 20 [List.map (V.ren _) _])=_
   simp only [List.map_cons,List.map_nil,ren_nlv]
   rfl
end Go.Proofs.YtigdhgbkgfagiaaGreat
