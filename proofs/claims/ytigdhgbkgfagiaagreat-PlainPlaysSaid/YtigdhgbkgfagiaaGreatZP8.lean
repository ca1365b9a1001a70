/- The model of an election: voters enrolled, moved, the phases turned, walked. · The model of an election: phases turned, voters moved, walked. -/
import Derived.Test.YtigdhgbkgfagiaaGreatZM2
import Derived.Test.YtigdhgbkgfagiaaGreatZP7
import Derived.Test.YtigdhgbkgfagiaaGreatZP3
set_option maxRecDepth 100000
set_option maxHeartbeats 4000000
set_option linter.unusedVariables false
set_option linter.unusedSimpArgs false
namespace Go.Proofs.YtigdhgbkgfagiaaGreat
def sdrow (x:Nl UInt8):List V:=[nlv byrow 1 x]
def balrow (b:Int×Nl Int):List V:=[.int .u8 b.1,nlv mrow 1 b.2]
structure Hb where
 name:List UInt8
 bals:Nl (Int×Nl Int)
def hbrow (b:Hb):List V:=[.str b.name,nlv balrow 2 b.bals]
structure Dd where
 kind:Nat
 name:List UInt8
 prec:Int
 batch:List UInt8
 boxes:Nl Int
 decs:Nl (Int×Bool)
 seeds:Nl (Nl UInt8)
 hand:Nl Hb
def ddrow (d:Dd):List V:=[.int .u8 d.kind,.str d.name,.int .i64 d.prec,.str d.batch,nlv urow 1 d.boxes,nlv drow 2 d.decs,nlv sdrow 1 d.seeds,nlv hbrow 2 d.hand]
structure okDd (d:Dd):Prop where
 name:d.name.length < 4611686018427387904
 batch:d.batch.length < 4611686018427387904
 boxes:d.boxes.l.length < 4611686018427387904
 decs:d.decs.l.length < 4611686018427387904
structure Ms where
 ph:Int
 en:Mp Bool
 fr:Mp Bool
 ho:Mp Bool
 ba:Mp Int
 vs:List (Int×List Int)
def vrow (v:Int×List Int):List V:=[.int .u8 v.1,rgM v.1 v.2]
theorem closed_vrow (v:Int×List Int):(vrow v).all V.closed=true:=by simp [vrow,V.closed,closed_rgM]
def modK (t:Tm) (s:Ms) (k:Nat):List V:=[.str t.name,nlv srow 1 t.cands,.int .i64 t.seats,.int .u8 t.rule,.int .u8 t.lo,.int .u8 t.hi,.int .i64 t.skips,.bool t.dneg,nlv nrow 1 t.dnum,nlv nrow 1 t.dden,.bool t.lneg,nlv nrow 1 t.lnum,nlv nrow 1 t.lden,nlv mrow 1 t.rounds,.int .i64 s.ph,.mapp 1,.mapp 2,.mapp 3,.mapp 4,accV k 2 s.vs]
def stH (t:Tm) (s:Ms):Heap:=[some (.arr 20 [modK t s 5]),some (mapB V.bool s.en),some (mapB V.bool s.fr),some (mapB V.bool s.ho),some (mapB (V.int .i64) s.ba),accB vrow 2 s.vs]
structure MsOk (s:Ms):Prop where
 ph:0≤s.ph∧s.ph≤2
 en:MpOk s.en
 fr:MpOk s.fr
 ho:MpOk s.ho
 ba:MpOk s.ba
theorem modK_ren {t:Tm} {s:Ms} {σ:Nat→Sg} {k j:Nat} (h:∀a,1≤a→a≤4→σ a=.to a) (hk:σ k=.to j):Blk.ren σ (.arr 20 [modK t s k])=.arr 20 [modK t s j]:=by
 show Blk.arr 20 [(modK t s k).map (V.ren σ)]=_
 have hv:V.ren σ (accV k 2 s.vs)=accV j 2 s.vs:=by
  unfold accV
  split
  ·rfl
  ·simp [V.ren,hk]
 simp only [modK,List.map_cons,List.map_nil,hv,ren_nlv]
 simp [V.ren,h 1 (by decide) (by decide),h 2 (by decide) (by decide),h 3 (by decide) (by decide),h 4 (by decide) (by decide)]
theorem accB_ren {σ:Nat→Sg} {vs:List (Int×List Int)}:(accB vrow 2 vs).map (Blk.ren σ)=accB vrow 2 vs:=by
 unfold accB
 split
 ·rfl
 ·rw [Option.map_some,ren_tl closed_vrow]
theorem st_shift {H:Heap} {t:Tm} {s:Ms} {k:Nat} (hk:posIn [some 0,some 1,some 2,some 3,some 4,some k] k 0=some 5) (h0:H.get 0=some (.arr 20 [modK t s k])) (h1:H.get 1=some (mapB V.bool s.en)) (h2:H.get 2=some (mapB V.bool s.fr)) (h3:H.get 3=some (mapB V.bool s.ho)) (h4:H.get 4=some (mapB (V.int .i64) s.ba)) (h5:H.get k=accB vrow 2 s.vs):H.sh [some 0,some 1,some 2,some 3,some 4,some k] []=stH t s:=by
 have hσ:∀a,1≤a→a≤4→sgOf H [some 0,some 1,some 2,some 3,some 4,some k] [] a=.to a:=fun a h1 h2=>by
  match a,h1,h2 with
  | 1,_,_=>rfl
  | 2,_,_=>rfl
  | 3,_,_=>rfl
  | 4,_,_=>rfl
  | 0,h,_=>exact absurd h (by omega)
  | n+5,_,h=>exact absurd h (by omega)
 have hσk:sgOf H [some 0,some 1,some 2,some 3,some 4,some k] [] k=.to 5:=by unfold sgOf;rw [hk]
 refine sh_c ?_ (sh_c ?_ (sh_c ?_ (sh_c ?_ (sh_c ?_ (sh_c ?_ sh_n)))))
 ·show (H.get 0).map _=_
  rw [h0,Option.map_some,modK_ren hσ hσk]
 ·show (H.get 1).map _=_
  rw [h1,Option.map_some,mapB_ren fun _=>rfl]
 ·show (H.get 2).map _=_
  rw [h2,Option.map_some,mapB_ren fun _=>rfl]
 ·show (H.get 3).map _=_
  rw [h3,Option.map_some,mapB_ren fun _=>rfl]
 ·show (H.get 4).map _=_
  rw [h4,Option.map_some,mapB_ren fun _=>rfl]
 ·show (H.get k).map _=_
  rw [h5,accB_ren]
theorem st_back {H:Heap} {t:Tm} {s s':Ms} {X:Heap} (hH:H=stH t s++X):Heap.back H [0,1,2,3,4,5] (stH t s')=stH t s'++X:=by
 subst hH
 have hσ:∀n a,1≤a→a≤4→outσ n [0,1,2,3,4,5] a=.to a:=fun n a h1 h2=>by
  match a,h1,h2 with
  | 1,_,_=>rfl
  | 2,_,_=>rfl
  | 3,_,_=>rfl
  | 4,_,_=>rfl
  | 0,h,_=>exact absurd h (by omega)
  | n+5,_,h=>exact absurd h (by omega)
 unfold Heap.back
 generalize (stH t s++X).length=n
 show Heap.upds (stH t s++X) [(0,(some (Blk.arr 20 [modK t s' 5])).map _),(1,(some (mapB V.bool s'.en)).map _),(2,(some (mapB V.bool s'.fr)).map _),(3,(some (mapB V.bool s'.ho)).map _),(4,(some (mapB (V.int .i64) s'.ba)).map _),(5,(accB vrow 2 s'.vs).map _)]++[]=_
 rw [Option.map_some,modK_ren (j:=5) (hσ n) rfl,Option.map_some,mapB_ren fun _=>rfl,Option.map_some,mapB_ren fun _=>rfl,Option.map_some,mapB_ren fun _=>rfl,Option.map_some,mapB_ren fun _=>rfl,accB_ren,List.append_nil]
 rfl
section
variable {L:Lib} {l:List AI} {rs:List Rec} {ms:List Nat} {K:Env→Heap→Prop} {E:Env} {H:Heap} {d:Option Nat} {anc:List Nat} {a:Nat} {k:List UInt8} {m:Mp Bool}
theorem dops_ent {x y:AOpd} (hx:opval L.G E.get x=some (.mapp a)) (hy:opval L.G E.get y=some (.str k)) (hH:H.get a=some (mapB V.bool m)) (ha:Nat.blt a H.length=true)
    (hi:indB (ancM ms anc) { dst:=d,looks:=AI.looks ⟨d,.mapent 1 (.bool false) x y,none,anc⟩,v:=some (.tup [.bool (m.ent1 k).2.2,.int .i64 ((m.ent1 k).2.1:Nat)]),need:=[a],eff:=[(a,some (mapB V.bool (m.ent1 k).1))],slot:=H.length,k:=0 } 0 rs=true)
    (kk:dopsP L l (rs++[{ dst:=d,looks:=AI.looks ⟨d,.mapent 1 (.bool false) x y,none,anc⟩,v:=some (.tup [.bool (m.ent1 k).2.2,.int .i64 ((m.ent1 k).2.1:Nat)]),need:=[a],eff:=[(a,some (mapB V.bool (m.ent1 k).1))],slot:=H.length,k:=0 }]) (ms++[ancM ms anc]) K (E.put d (.tup [.bool (m.ent1 k).2.2,.int .i64 ((m.ent1 k).2.1:Nat)])) (H.set a (some (mapB V.bool (m.ent1 k).1)))):dopsP L (⟨d,.mapent 1 (.bool false) x y,none,anc⟩::l) rs ms K E H:=
 dops_op (e:={ v:=.tup [.bool (m.ent1 k).2.2,.int .i64 ((m.ent1 k).2.1:Nat)],need:=[a],upd:=[(a,some (mapB V.bool (m.ent1 k).1))] }) rfl rfl (by
  show ((opval L.G E.get x).bind _)=_
  rw [hx]
  show ((opval L.G E.get y).bind _)=_
  rw [hy]
  exact mapent_map hH) (by simp only [List.all_cons,List.all_nil,ha,Bool.and_self]) (by simpa [Eff.all] using hi) (by simpa [Heap.app,Heap.upds,Eff.all] using kk)
theorem dops_est {x y z:AOpd} (hm:MpOk m) (hx:opval L.G E.get x=some (.mapp a)) (hy:opval L.G E.get y=some (.int .i64 ((m.ent1 k).2.1:Nat))) (hz:opval L.G E.get z=some (.bool true)) (hH:H.get a=some (mapB V.bool (m.ent1 k).1)) (ha:Nat.blt a H.length=true)
    (hi:indB (ancM ms anc) { dst:=d,looks:=AI.looks ⟨d,.entstore x y z,none,anc⟩,v:=some (.tup []),need:=[a],eff:=[(a,some (mapB V.bool (m.set k true)))],slot:=H.length,k:=0 } 0 rs=true)
    (kk:dopsP L l (rs++[{ dst:=d,looks:=AI.looks ⟨d,.entstore x y z,none,anc⟩,v:=some (.tup []),need:=[a],eff:=[(a,some (mapB V.bool (m.set k true)))],slot:=H.length,k:=0 }]) (ms++[ancM ms anc]) K (E.put d (.tup [])) (H.set a (some (mapB V.bool (m.set k true))))):dopsP L (⟨d,.entstore x y z,none,anc⟩::l) rs ms K E H:=
 dops_op (e:={ v:=.tup [],need:=[a],upd:=[(a,some (mapB V.bool (m.set k true)))] }) rfl rfl (by
  show ((opval L.G E.get x).bind _)=_
  rw [hx]
  show ((opval L.G E.get y).bind _)=_
  rw [hy]
  show ((opval L.G E.get z).bind _)=_
  rw [hz]
  exact entst_map hm hH) (by simp only [List.all_cons,List.all_nil,ha,Bool.and_self]) (by simpa [Eff.all] using hi) (by simpa [Heap.app,Heap.upds,Eff.all] using kk)
end
def enrolS (s:Ms) (d:Dd):Ms×Bool:=
 if s.ph≠0∨namedS d.name=false∨d.prec < 0∨8≤d.prec∨(s.en.get d.name).getD false=true∨64≤s.en.es.length then (s,false)
 else ({ s with en:=s.en.set d.name true,fr:=s.fr.set d.name true },true)
def turnS (s:Ms) (frm:Int) (ready:Bool):Ms×Bool:=
 if s.ph≠frm∨ready=false then (s,false) else ({ s with ph:=s.ph+1 },true)
def issueS (s:Ms) (k:List UInt8):Ms×Bool:=
 if s.ph≠1∨(s.fr.get k).getD false=false then (s,false) else ({ s with fr:=s.fr.del k,ho:=s.ho.set k true },true)
def returnS (s:Ms) (k:List UInt8):Ms×Bool:=
 if s.ph≠1∨(s.ho.get k).getD false=false then (s,false) else ({ s with ho:=s.ho.del k,fr:=s.fr.set k true },true)
variable {L:Lib} (hL:L.T=tab.get)
include hL
theorem enrol_a {t:Tm} {s:Ms} {d:Dd} (hs:MsOk s) (hd:okDd d):AFn L (.fn 108) [.ptr 0 20 0 0,.agg (ddrow d)] (stH t s) (fun r H'=>r=.bool (enrolS s d).2∧H'=stH t (enrolS s d).1):=by
 have kn:=named_v hL (s:=d.name) hd.name
 obtain ⟨ph,en,fr,ho,ba,vs⟩:=s
 refine AFn.of_body (F:=T108.1) (by rw [hL];rfl) rfl ?_
 unfold ddrow stH modK
 by_cases h1:ph≠0
 ·rw [show enrolS ⟨ph,en,fr,ho,ba,vs⟩ d=(⟨ph,en,fr,ho,ba,vs⟩,false) from if_pos (.inl h1)]
  refine Wf1 h1 kn ?_
  exact FnQ.sh [some 0,some 1,some 2,some 3,some 4,some 5] [] rfl rfl rfl (st_shift (s:=⟨ph,en,fr,ho,ba,vs⟩) rfl rfl rfl rfl rfl rfl rfl) ⟨rfl,rfl⟩
 ·obtain rfl:ph=0:=Decidable.not_not.1 h1
  by_cases h2:namedS d.name=false
  ·rw [show enrolS ⟨0,en,fr,ho,ba,vs⟩ d=(⟨0,en,fr,ho,ba,vs⟩,false) from if_pos (.inr (.inl h2))]
   refine Wf1 h2 kn ?_
   exact FnQ.sh [some 0,some 1,some 2,some 3,some 4,some 5] [] rfl rfl rfl (st_shift (s:=⟨0,en,fr,ho,ba,vs⟩) rfl rfl rfl rfl rfl rfl rfl) ⟨rfl,rfl⟩
  ·replace h2:namedS d.name=true:=by simpa using h2
   by_cases h3:d.prec < 0
   ·rw [show enrolS ⟨0,en,fr,ho,ba,vs⟩ d=(⟨0,en,fr,ho,ba,vs⟩,false) from if_pos (.inr (.inr (.inl h3)))]
    refine Wf1 (Q2 h2 h3) kn ?_
    exact FnQ.sh [some 0,some 1,some 2,some 3,some 4,some 5] [] rfl rfl rfl (st_shift (s:=⟨0,en,fr,ho,ba,vs⟩) rfl rfl rfl rfl rfl rfl rfl) ⟨rfl,rfl⟩
   ·by_cases h4:8≤d.prec
    ·rw [show enrolS ⟨0,en,fr,ho,ba,vs⟩ d=(⟨0,en,fr,ho,ba,vs⟩,false) from if_pos (.inr (.inr (.inr (.inl h4))))]
     refine Wf1 (Q3 h2 h3 h4) kn ?_
     exact FnQ.sh [some 0,some 1,some 2,some 3,some 4,some 5] [] rfl rfl rfl (st_shift (s:=⟨0,en,fr,ho,ba,vs⟩) rfl rfl rfl rfl rfl rfl rfl) ⟨rfl,rfl⟩
    ·by_cases h5:(en.get d.name).getD false=true
     ·rw [show enrolS ⟨0,en,fr,ho,ba,vs⟩ d=(⟨0,en,fr,ho,ba,vs⟩,false) from if_pos (.inr (.inr (.inr (.inr (.inl h5)))))]
      refine Wf1 (Q4 h2 h3 h4 h5) kn ?_
      exact FnQ.sh [some 0,some 1,some 2,some 3,some 4,some 5] [] rfl rfl rfl (st_shift (s:=⟨0,en,fr,ho,ba,vs⟩) rfl rfl rfl rfl rfl rfl rfl) ⟨rfl,rfl⟩
     ·replace h5:(en.get d.name).getD false=false:=by simpa using h5
      by_cases h6:64≤en.es.length
      ·rw [show enrolS ⟨0,en,fr,ho,ba,vs⟩ d=(⟨0,en,fr,ho,ba,vs⟩,false) from if_pos (.inr (.inr (.inr (.inr (.inr h6)))))]
       refine Wf1 (Q5 h2 h3 h4 h5 (show (64:Int)≤en.es.length by omega)) kn ?_
       exact FnQ.sh [some 0,some 1,some 2,some 3,some 4,some 5] [] rfl rfl rfl (st_shift (s:=⟨0,en,fr,ho,ba,vs⟩) rfl rfl rfl rfl rfl rfl rfl) ⟨rfl,rfl⟩
      ·rw [show enrolS ⟨0,en,fr,ho,ba,vs⟩ d=(⟨0,en.set d.name true,fr.set d.name true,ho,ba,vs⟩,true) from if_neg (by simp [h2,h3,h4,h5];omega)]
       refine Wf1 (Q5 h2 h3 h4 h5 (show ¬(64:Int)≤en.es.length by omega)) kn ?_
       refine wDrawD rfl ?_
       refine dops_op rfl rfl rfl rfl (by kernel_rfl) ?_;refine dops_op rfl rfl rfl rfl (by kernel_rfl) ?_;refine dops_op rfl rfl rfl rfl (by kernel_rfl) ?_;refine dops_op rfl rfl rfl rfl (by kernel_rfl) ?_;refine dops_op rfl rfl rfl rfl (by kernel_rfl) ?_
       simp only [seval,push_cast,↓reduceIte,↓bP_some,↓aP_true,reduceCtorEq,happ_eq,upds_nil,upds_cons,List.map_nil,List.append_nil]
       refine dops_op rfl rfl rfl rfl (by kernel_rfl) ?_;refine dops_op rfl rfl rfl rfl (by kernel_rfl) ?_;refine dops_op rfl rfl rfl rfl (by kernel_rfl) ?_;refine dops_op rfl rfl rfl rfl (by kernel_rfl) ?_;refine dops_op rfl rfl rfl rfl (by kernel_rfl) ?_
       simp only [seval,push_cast,↓reduceIte,↓bP_some,↓aP_true,reduceCtorEq,happ_eq,upds_nil,upds_cons,List.map_nil,List.append_nil]
       refine dops_op rfl rfl rfl rfl (by kernel_rfl) ?_;refine dops_op rfl rfl rfl rfl (by kernel_rfl) ?_
       simp only [seval,push_cast,↓reduceIte,↓bP_some,↓aP_true,reduceCtorEq,happ_eq,upds_nil,upds_cons,List.map_nil,List.append_nil]
       refine dops_ent (a:=1) (k:=d.name) (m:=en) rfl rfl rfl rfl (by kernel_rfl) ?_
       simp only [seval,push_cast,↓reduceIte,↓bP_some,↓aP_true,reduceCtorEq,happ_eq,upds_nil,upds_cons,List.map_nil,List.append_nil]
       refine dops_op rfl rfl rfl rfl (by kernel_rfl) ?_
       refine dops_est (a:=1) (k:=d.name) (m:=en) hs.en rfl rfl rfl rfl rfl (by kernel_rfl) ?_
       simp only [seval,push_cast,↓reduceIte,↓bP_some,↓aP_true,reduceCtorEq,happ_eq,upds_nil,upds_cons,List.map_nil,List.append_nil]
       refine dops_ent (a:=2) (k:=d.name) (m:=fr) rfl rfl rfl rfl (by kernel_rfl) ?_
       simp only [seval,push_cast,↓reduceIte,↓bP_some,↓aP_true,reduceCtorEq,happ_eq,upds_nil,upds_cons,List.map_nil,List.append_nil]
       refine dops_op rfl rfl rfl rfl (by kernel_rfl) ?_
       refine dops_est (a:=2) (k:=d.name) (m:=fr) hs.fr rfl rfl rfl rfl rfl (by kernel_rfl) ?_
       simp only [seval,push_cast,↓reduceIte,↓bP_some,↓aP_true,reduceCtorEq,happ_eq,upds_nil,upds_cons,List.map_nil,List.append_nil]
       refine dops_nil ?_
       refine Wn0 ?_
       exact FnQ.sh [some 0,some 1,some 2,some 3,some 4,some 5] [] rfl rfl rfl (st_shift (s:=⟨0,en.set d.name true,fr.set d.name true,ho,ba,vs⟩) rfl rfl rfl rfl rfl rfl rfl) ⟨rfl,rfl⟩
end Go.Proofs.YtigdhgbkgfagiaaGreat
namespace Go.Proofs.YtigdhgbkgfagiaaGreat
variable {L:Lib} (hL:L.T=tab.get)
include hL
theorem always_v:VFn L 106 [] (.bool true):=by
 refine VFn.start (F:=T106.1) (by rw [hL];rfl) rfl rfl rfl ?_
 refine Wn0 ?_
 exact FnQ.ret rfl rfl
theorem none_a {t:Tm} {s:Ms}:AFn L (.fn 107) [.ptr 6 1 0 0] (stH t s++[some (.arr 1 [[.ptr 0 20 0 0]])]) (fun r H'=>r=.bool (decide (s.ho.es.length=0))∧H'=stH t s++[some (.arr 1 [[.ptr 0 20 0 0]])]):=by
 refine AFn.of_body (F:=T107.1) (by rw [hL];rfl) rfl ?_
 unfold stH modK
 by_cases h:s.ho.es.length=0
 ·rw [decide_eq_true h]
  refine Wf0 (show (s.ho.es.length:Int)=0 by omega) ?_
  exact FnQ.at rfl ⟨rfl,rfl⟩
 ·rw [decide_eq_false h]
  refine Wf0 (show ¬(s.ho.es.length:Int)=0 by omega) ?_
  exact FnQ.at rfl ⟨rfl,rfl⟩
theorem turn0_a {t:Tm} {s:Ms}:AFn L (.fn 109) [.ptr 0 20 0 0,.int .i64 0,.fn 106 [] []] (stH t s) (fun r H'=>r=.bool (turnS s 0 true).2∧H'=stH t (turnS s 0 true).1):=by
 obtain ⟨ph,en,fr,ho,ba,vs⟩:=s
 refine AFn.of_body (F:=T109.1) (by rw [hL];rfl) rfl ?_
 unfold stH modK
 by_cases h1:ph≠0
 ·rw [show turnS ⟨ph,en,fr,ho,ba,vs⟩ 0 true=(⟨ph,en,fr,ho,ba,vs⟩,false) from if_pos (.inl h1)]
  refine Wf0 h1 ?_
  exact FnQ.at rfl ⟨rfl,rfl⟩
 ·obtain rfl:ph=0:=Decidable.not_not.1 h1
  rw [show turnS ⟨0,en,fr,ho,ba,vs⟩ 0 true=(⟨1,en,fr,ho,ba,vs⟩,true) from rfl]
  refine Wn0 ?_
  refine opsP_any rfl ((always_v hL).at _) ?_
  rintro r h' ⟨rfl,rfl⟩
  refine Wf0 (show IntKind.i64.wrap (0+1)=1 from rfl) ?_
  exact FnQ.at rfl ⟨rfl,rfl⟩
theorem turn1_a {t:Tm} {s:Ms}:AFn L (.fn 109) [.ptr 0 20 0 0,.int .i64 1,.fn 107 [] [.ptr 6 1 0 0]] (stH t s++[some (.arr 1 [[.ptr 0 20 0 0]])]) (fun r H'=>r=.bool (turnS s 1 (decide (s.ho.es.length=0))).2∧H'=stH t (turnS s 1 (decide (s.ho.es.length=0))).1++[some (.arr 1 [[.ptr 0 20 0 0]])]):=by
 have kn:=none_a hL (t:=t) (s:=s)
 obtain ⟨ph,en,fr,ho,ba,vs⟩:=s
 refine AFn.of_body (F:=T109.1) (by rw [hL];rfl) rfl ?_
 unfold stH modK at kn ⊢
 dsimp only at kn ⊢
 generalize decide (ho.es.length=0)=b at *
 by_cases h1:ph≠1
 ·rw [show turnS ⟨ph,en,fr,ho,ba,vs⟩ 1 b=(⟨ph,en,fr,ho,ba,vs⟩,false) from if_pos (.inl h1)]
  refine Wf0 h1 ?_
  exact FnQ.at rfl ⟨rfl,rfl⟩
 ·obtain rfl:ph=1:=Decidable.not_not.1 h1
  cases b with
  | false=>
   rw [show turnS ⟨1,en,fr,ho,ba,vs⟩ 1 false=(⟨1,en,fr,ho,ba,vs⟩,false) from rfl]
   refine Wn0 ?_
   refine opsP_any rfl kn ?_
   rintro r h' ⟨rfl,rfl⟩
   refine Wn0 ?_
   exact FnQ.at rfl ⟨rfl,rfl⟩
  | true=>
   rw [show turnS ⟨1,en,fr,ho,ba,vs⟩ 1 true=(⟨2,en,fr,ho,ba,vs⟩,true) from rfl]
   refine Wn0 ?_
   refine opsP_any rfl kn ?_
   rintro r h' ⟨rfl,rfl⟩
   refine Wf0 (show IntKind.i64.wrap (1+1)=2 from rfl) ?_
   exact FnQ.at rfl ⟨rfl,rfl⟩
theorem issue_a {t:Tm} {s:Ms} {k:List UInt8}:AFn L (.fn 110) [.ptr 0 20 0 0,.str k,.mapp 2,.mapp 3] (stH t s) (fun r H'=>r=.bool (issueS s k).2∧H'=stH t (issueS s k).1):=by
 obtain ⟨ph,en,fr,ho,ba,vs⟩:=s
 refine AFn.of_body (F:=T110.1) (by rw [hL];rfl) rfl ?_
 unfold stH modK
 by_cases h1:ph≠1
 ·rw [show issueS ⟨ph,en,fr,ho,ba,vs⟩ k=(⟨ph,en,fr,ho,ba,vs⟩,false) from if_pos (.inl h1)]
  refine Wf0 h1 ?_
  exact FnQ.at rfl ⟨rfl,rfl⟩
 ·obtain rfl:ph=1:=Decidable.not_not.1 h1
  by_cases h2:(fr.get k).getD false=false
  ·rw [show issueS ⟨1,en,fr,ho,ba,vs⟩ k=(⟨1,en,fr,ho,ba,vs⟩,false) from if_pos (.inr h2)]
   refine Wf0 h2 ?_
   exact FnQ.at rfl ⟨rfl,rfl⟩
  ·replace h2:(fr.get k).getD false=true:=by simpa using h2
   rw [show issueS ⟨1,en,fr,ho,ba,vs⟩ k=(⟨1,en,fr.del k,ho.set k true,ba,vs⟩,true) from if_neg (by simp [h2])]
   refine Wf0 h2 ?_
   exact FnQ.at rfl ⟨rfl,rfl⟩
theorem return_a {t:Tm} {s:Ms} {k:List UInt8}:AFn L (.fn 110) [.ptr 0 20 0 0,.str k,.mapp 3,.mapp 2] (stH t s) (fun r H'=>r=.bool (returnS s k).2∧H'=stH t (returnS s k).1):=by
 obtain ⟨ph,en,fr,ho,ba,vs⟩:=s
 refine AFn.of_body (F:=T110.1) (by rw [hL];rfl) rfl ?_
 unfold stH modK
 by_cases h1:ph≠1
 ·rw [show returnS ⟨ph,en,fr,ho,ba,vs⟩ k=(⟨ph,en,fr,ho,ba,vs⟩,false) from if_pos (.inl h1)]
  refine Wf0 h1 ?_
  exact FnQ.at rfl ⟨rfl,rfl⟩
 ·obtain rfl:ph=1:=Decidable.not_not.1 h1
  by_cases h2:(ho.get k).getD false=false
  ·rw [show returnS ⟨1,en,fr,ho,ba,vs⟩ k=(⟨1,en,fr,ho,ba,vs⟩,false) from if_pos (.inr h2)]
   refine Wf0 h2 ?_
   exact FnQ.at rfl ⟨rfl,rfl⟩
  ·replace h2:(ho.get k).getD false=true:=by simpa using h2
   rw [show returnS ⟨1,en,fr,ho,ba,vs⟩ k=(⟨1,en,fr.set k true,ho.del k,ba,vs⟩,true) from if_neg (by simp [h2])]
   refine Wf0 h2 ?_
   exact FnQ.at rfl ⟨rfl,rfl⟩
end Go.Proofs.YtigdhgbkgfagiaaGreat
