/- Outcomes in bytes: Bytes of the program, walked. · Outcomes in bytes: Bytes of the reference, walked. -/
import Derived.Test.YtigdhgbkgfagiaaGreatVE6
set_option maxRecDepth 100000
set_option maxHeartbeats 4000000
set_option linter.unusedVariables false
set_option linter.unusedSimpArgs false
namespace Go.Proofs.YtigdhgbkgfagiaaGreat
section
variable {N n bts a b m:Nat} {rows ys:List (List V)} {row r0:List V} {ny:List Nat} {y:V} {H:Heap} {c:Option Nat}
theorem ap_own (hm:rows.length=m) (ha:H.get a=some (.arr n rows)) (hy:rowsOf n (shG n H.get) y=some (ys,ny)) (hr:(m+ys.length)*bts≤140737488355328):appendV N n bts (shG n H.get) (.ref a n 0 m none) y=some { v:=.ref N n 0 (m+ys.length) none,need:=a::ny,upd:=[(a,none)],new:=[.arr n (rows++ys)] }:=by
 have hg:shG n H.get a=some (.arr n rows):=by show (H.get a).map _=_;rw [ha];exact congrArg some shape_same
 unfold appendV
 rw [hy,Option.bind_some]
 dsimp only
 rw [hg]
 dsimp only
 rw [if_pos (by refine ⟨?_,?_,?_⟩ <;> first|trivial|omega),if_pos (by refine ⟨?_,?_,?_⟩ <;> first|trivial|omega|(unfold roomOk;simpa using hr))]
theorem rowsOf_ref1 (hm:rows.length=m) (hb:H.get b=some (.arr n rows)):rowsOf n (shG n H.get) (.ref b n 0 m c)=some (rows,[b]):=by
 have hg:shG n H.get b=some (.arr n rows):=by show (H.get b).map _=_;rw [hb];exact congrArg some shape_same
 unfold rowsOf
 dsimp only
 rw [hg]
 subst hm
 simp
theorem ap_cap1 (ha:H.get a=some (.arr n [r0])) (hb:H.get b=some (.arr n [row])) (hr:2*bts≤140737488355328):appendV N n bts (shG n H.get) (.ref a n 0 1 (some 1)) (.ref b n 0 1 (some 1))=some { v:=.ref N n 0 2 none,need:=[a,b],new:=[.arr n [r0,row]] }:=by
 have hg:shG n H.get a=some (.arr n [r0]):=by show (H.get a).map _=_;rw [ha];exact congrArg some shape_same
 unfold appendV
 rw [rowsOf_ref1 (rows:=[row]) (m:=1) rfl hb,Option.bind_some]
 dsimp only
 rw [hg]
 dsimp only
 rw [if_pos (by simp),if_neg (by simp),if_pos (by unfold roomOk;simpa using hr)]
 rfl
end
section
variable {L:Lib} {l:List AI} {rs:List Rec} {ms:List Nat} {K:Env→Heap→Prop} {E:Env} {H:Heap} {d:Option Nat} {anc:List Nat} {e:Eff}
theorem dops_apB {size bts:Nat} {x y:AOpd} {X Y:V} (hx:opval L.G E.get x=some X) (hy:opval L.G E.get y=some Y) (he:appendV H.length size bts (shG size H.get) X Y=some e) (hu:(e.upd.all fun p=>Nat.blt p.1 H.length)=true)
    (hi:indB (ancM ms anc) { dst:=d,looks:=AI.looks ⟨d,.append size bts x y,none,anc⟩,v:=some e.v,need:=e.need,eff:=e.all H.length,slot:=H.length,k:=e.new.length } 0 rs=true)
    (k:dopsP L l (rs++[{ dst:=d,looks:=AI.looks ⟨d,.append size bts x y,none,anc⟩,v:=some e.v,need:=e.need,eff:=e.all H.length,slot:=H.length,k:=e.new.length }]) (ms++[ancM ms anc]) K (E.put d e.v) (H.app e)):dopsP L (⟨d,.append size bts x y,none,anc⟩::l) rs ms K E H:=
 dops_op (e:=e) rfl rfl (by
  show ((opval L.G E.get x).bind _)=_
  rw [hx]
  show ((opval L.G E.get y).bind _)=_
  rw [hy]
  exact he) hu hi k
end
theorem closed_bytesV {o:Oq}:(bytesV o).closed=true:=by unfold bytesV;split;· rfl
                                                        ·exact closed_joinV
def capV (j:Nat):V:=.ref 0 1 0 (j+1) (if j=0 then some 1 else none)
theorem tie_frz {x:Tq} {H:Heap} {m:Nat} (hm:m=(tieB x).length) (h:H.get 4=some (.arr 1 ((tieB x).map byrow))):V.ren (sgOf H [some 6] [4]) (.ref 4 1 0 m none)=nlv byrow 1 (nzq (tieB x)):=by
 subst hm
 have hne:tieB x≠[]:=by simp [tieB]
 rw [nzq_ne hne,nlv_full hne]
 exact frz_refS' closed_byrow (by decide) rfl rfl h
variable {L:Lib} (hL:L.T=tab.get)
include hL
theorem bytes_v {o:Oq} (ho:okOq o):VFn L 11 [.agg (oqC o)] (bytesV o):=by
 obtain ⟨el,rd,ti⟩:=o
 obtain ⟨h1,⟨h2,h3⟩,h4,h5⟩:=ho
 simp only at h1 h2 h3 h4 h5
 have hel:el.l.length≤17592186044416:=h1
 have k1:=odN_v hL (o:=el) (by omega)
 have k2:=cfT_v hL (o:=ti) (by omega) (fun t ht=>by have:t.among.l.length≤17592186044416:=h5 t ht;omega)
 refine VFn.start (F:=T11.1) (by rw [hL];rfl) rfl (by simp [V.closeds,V.closed,closed_nlv,oqC]) closed_bytesV ?_
 unfold oqC
 refine wSeq rfl ?_
 refine wOps rfl ?_
 simp only [seval,push_cast,↓reduceIte,↓bP_some,↓aP_true,reduceCtorEq]
 refine wSeq rfl ?_
 refine wOps rfl ?_
 simp only [seval,push_cast,↓reduceIte,↓bP_some,↓aP_true,reduceCtorEq,show (V.fn 28 [] []).cells=[V.fn 28 [] []] from rfl,show (V.fn 28 [] []).isVal=true from rfl,List.length_cons,List.length_nil]
 have hfz:∀σ,(nlv mrow 1 el).ren σ=nlv mrow 1 el∧(nlv dqrow 6 rd).ren σ=nlv dqrow 6 rd∧(nlv tqrow 2 ti).ren σ=nlv tqrow 2 ti:=fun σ=>⟨ren_nlv,ren_nlv,ren_nlv⟩
 have hsg:sgOf [some (Blk.arr 3 [[nlv mrow 1 el,nlv dqrow 6 rd,nlv tqrow 2 ti]]),some (Blk.arr 1 [[V.fn 28 [] []]])] [] [0,1] 0=.frz 3 [[nlv mrow 1 el,nlv dqrow 6 rd,nlv tqrow 2 ti]]:=by
  simp [sgOf,posIn,Heap.get,Blk.closed,closed_nlv]
 refine wShift [] [0,1] (E1:=[(1,V.iptr 3 [[nlv mrow 1 el,nlv dqrow 6 rd,nlv tqrow 2 ti]] 0 0),(4,fnCell)]) (H1:=[]) rfl ?_ rfl ?_
 ·simp only [Env.sh,List.map_cons,List.map_nil,V.ren,hsg]
  rfl
 unfold fnCell at k2 ⊢
 refine Wn0 ?_
 refine opsP_any rfl (k1.at _) ?_
 rintro _ _ ⟨rfl,rfl⟩
 cases e1:el.l.any odI with
 | true=>
  rw [show bytesV ⟨el,rd,ti⟩=.tup [.lst 0 [] (some 0),.int .i64 2] by unfold bytesV odO;simp only [e1];rfl]
  refine Wn0 ?_
  exact FnQ.ret rfl rfl
 | false=>
 refine Wn1 k2 ?_
 cases e2:ti.l.any odT with
 | true=>
  rw [show bytesV ⟨el,rd,ti⟩=.tup [.lst 0 [] (some 0),.int .i64 2] by unfold bytesV odO;simp only [e1,e2];rfl]
  refine Wn0 ?_
  exact FnQ.ret rfl rfl
 | false=>
 rw [show bytesV ⟨el,rd,ti⟩=joinV (fldsO ⟨el,rd,ti⟩) by unfold bytesV odO;simp only [e1,e2];rfl]
 refine Wn0 ?_
 obtain ⟨s1,c1,g1,g2⟩:=nlv_tl (f:=mrow) (n:=1) (o:=el)
 have kt0:=(ptext_m hL (c:=c1) g2 hel).2
 rw [←g1] at kt0
 refine opsP_any rfl kt0 ?_
 rintro _ _ ⟨rfl,rfl⟩
 refine Wn0 ?_
 generalize hC:V.iptr 3 [[nlv mrow 1 el,nlv dqrow 6 rd,nlv tqrow 2 ti]] 0 0=C
 have hCc:∀σ,V.ren σ C=C:=fun σ=>by rw [←hC];rfl
 refine wShift [some 1] [0] (E1:=[(5,V.fn 31 [] []),(6,capV 0),(25,nlv tqrow 2 ti),(26,.int .i64 (ti.l.length:Nat)),(27,.int .i64 0)]) (H1:=[some (.arr 1 ([txt el.l].map flrow))]) rfl ?_ (sh_c ?_ sh_n) ?_
 ·simp only [Env.sh,List.map_cons,List.map_nil,hCc,ren_nlv];rfl
 ·show some (Blk.arr 1 [[V.ren _ (accV 0 1 (txt el.l))]])=_
  rw [acc_frz (fz:=[0]) (src:=[some 1]) closed_byrow (by decide) rfl rfl rfl];rfl
 refine wCntH rfl 27 ti.l.length (fun j=>[(6,capV j)]) (fun j=>[some (.arr 1 ((txt el.l::(ti.l.take j).map tieB).map flrow))]) (fun _=>True) rfl rfl trivial ?_ ?_
 ·intro j hj _
  obtain ⟨x,hx,hm⟩:=get_of hj
  have hw:=wrap_succ (show j < 9223372036854775807 by omega)
  have kc:MFn L 31 [tl mrow 1 [x.chosen] (some 1)] (.ref 0 1 0 1 none) [some (.arr 1 [byrow (u8i x.chosen)])]:=ptext_m hL (.inl rfl) (by simp)
  have hT:(txt el.l::(ti.l.take (j+1)).map tieB).map flrow=(txt el.l::(ti.l.take j).map tieB).map flrow++[flrow (tieB x)]:=by rw [take_snoc hx];simp
  rw [hT]
  have hRl:((txt el.l::(ti.l.take j).map tieB).map flrow).length=j+1:=by simp;omega
  have hfl:∀σ,Blk.ren σ (.arr 1 ((txt el.l::(ti.l.take j).map tieB).map flrow))=.arr 1 ((txt el.l::(ti.l.take j).map tieB).map flrow):=fun σ=>ren_tl closed_fl
  have hRm:∀σ,((txt el.l::(ti.l.take j).map tieB).map flrow).map (fun r=>r.map (V.ren σ))=(txt el.l::(ti.l.take j).map tieB).map flrow:=fun σ=>ren_rows closed_fl
  have hR0:j=0→(txt el.l::(ti.l.take j).map tieB).map flrow=[flrow (txt el.l)]:=fun e=>by subst e;simp
  generalize (txt el.l::(ti.l.take j).map tieB).map flrow=R at *
  refine Wf0 (Q4 hj (iN hj) hx @tqrow_eq) ?_
  refine wShift [some 0] [1] (E1:=[(5,V.fn 31 [] []),(6,capV j),(8,.iptr 2 [[nlv mrow 1 x.among,V.int IntKind.i64 x.chosen]] 0 0),(25,nlv tqrow 2 ti),(26,.int .i64 (ti.l.length:Nat)),(27,.int .i64 j)]) (H1:=[some (.arr 1 R)]) rfl ?_ (sh_c (congrArg some (hfl _)) sh_n) ?_
  ·have hs8:sgOf [some (Blk.arr 1 R),some (Blk.arr 2 [[nlv mrow 1 x.among,V.int IntKind.i64 x.chosen]])] [some 0] [1] 1=.frz 2 [[nlv mrow 1 x.among,V.int IntKind.i64 x.chosen]]:=by
     simp [sgOf,posIn,Heap.get,Blk.closed,closed_nlv,V.closed]
   have hs0:sgOf [some (Blk.arr 1 R),some (Blk.arr 2 [[nlv mrow 1 x.among,V.int IntKind.i64 x.chosen]])] [some 0] [1] 0=.to 0:=rfl
   simp only [Env.sh,List.map_cons,List.map_nil,ren_nlv,V.ren,hs8,hs0,capV]
   rfl
  have c1':∀σ,Blk.ren σ (.arr 1 [byrow (u8i x.chosen)])=.arr 1 [byrow (u8i x.chosen)]:=fun σ=>ren_tl (l:=[u8i x.chosen]) closed_byrow
  have c2':∀σ,Blk.ren σ (.arr 1 ((txt x.among.l).map byrow))=.arr 1 ((txt x.among.l).map byrow):=fun σ=>ren_tl closed_byrow
  have hax:x.among.l.length≤17592186044416:=h5 x hm
  have hal:(txt x.among.l).length=x.among.l.length:=txt_len
  obtain ⟨s2,d2,q1,q2⟩:=nlv_tl (f:=mrow) (n:=1) (o:=x.among)
  have ka':=ptext_m hL (c:=d2) q2 hax
  rw [←q1] at ka'
  by_cases ha:txt x.among.l=[]
  ·have ka:MFn L 31 [nlv mrow 1 x.among] (.lst 0 [] (some 0)) [none]:=by rw [ha] at ka';exact ka'
   by_cases hj0:j=0
   ·obtain rfl:=hR0 hj0
    subst hj0
    have e0:capV 0=.ref 0 1 0 1 (some 1):=rfl
    have e1':capV (0+1)=.ref 0 1 0 2 none:=rfl
    rw [e0,e1']
    refine wDrawD rfl ?_
    refine dops_op rfl rfl rfl rfl (by kernel_rfl) ?_;refine dops_op rfl rfl rfl rfl (by kernel_rfl) ?_;refine dops_op rfl rfl rfl rfl (by kernel_rfl) ?_;refine dops_op rfl rfl rfl rfl (by kernel_rfl) ?_;refine dops_op rfl rfl rfl rfl (by kernel_rfl) ?_
    simp only [seval,push_cast,↓reduceIte,↓bP_some,↓aP_true,reduceCtorEq,happ_eq,upds_nil,upds_cons,List.map_nil,List.append_nil]
    refine dops_lendM [1] rfl rfl rfl rfl kc rfl (by kernel_rfl) ?_
    simp only [seval,push_cast,↓reduceIte,↓bP_some,↓aP_true,reduceCtorEq,happ_eq,upds_nil,upds_cons,List.map_nil,List.append_nil,ren_up_ref,List.map_cons,Option.map_some,Option.map_none,List.length_cons,List.length_nil,List.cons_append,List.nil_append,c1']
    refine dops_op rfl rfl rfl rfl (by kernel_rfl) ?_;refine dops_op rfl rfl rfl rfl (by kernel_rfl) ?_;refine dops_op rfl rfl rfl rfl (by kernel_rfl) ?_
    simp only [seval,push_cast,↓reduceIte,↓bP_some,↓aP_true,reduceCtorEq,happ_eq,upds_nil,upds_cons,List.map_nil,List.append_nil]
    refine dops_lendM [] rfl rfl rfl (congrArg (fun v=>[v]) ren_nlv) ka rfl (by kernel_rfl) ?_
    simp only [seval,push_cast,↓reduceIte,↓bP_some,↓aP_true,reduceCtorEq,happ_eq,upds_nil,upds_cons,List.map_nil,List.append_nil,ren_up_ref,List.map_cons,Option.map_some,Option.map_none,List.length_cons,List.length_nil,List.cons_append,List.nil_append,c1',c2']
    refine dops_apB rfl rfl (ap_own (rows:=[byrow (u8i x.chosen)]) (ys:=[]) rfl rfl rfl (by simp)) rfl (by kernel_rfl) ?_
    simp only [seval,push_cast,↓reduceIte,↓bP_some,↓aP_true,reduceCtorEq,happ_eq,upds_nil,upds_cons,List.map_nil,List.append_nil]
    refine dops_op rfl rfl rfl rfl (by kernel_rfl) ?_
    simp only [seval,push_cast,↓reduceIte,↓bP_some,↓aP_true,reduceCtorEq,happ_eq,upds_nil,upds_cons,List.map_nil,List.append_nil]
    refine dops_apB rfl rfl (ap_cap1 (r0:=flrow (txt el.l)) rfl rfl (by decide)) rfl (by kernel_rfl) ?_
    simp only [seval,push_cast,↓reduceIte,↓bP_some,↓aP_true,reduceCtorEq,happ_eq,upds_nil,upds_cons,List.map_nil,List.append_nil]
    refine dops_op rfl rfl rfl rfl (by kernel_rfl) ?_
    simp only [seval,push_cast,↓reduceIte,↓bP_some,↓aP_true,reduceCtorEq,happ_eq,upds_nil,upds_cons,List.map_nil,List.append_nil]
    refine dops_nil ?_
    simp only [seval,push_cast,↓reduceIte,↓bP_some,↓aP_true,reduceCtorEq,happ_eq,upds_nil,upds_cons,List.map_nil,List.append_nil]
    refine Wf0 (show IntKind.i64.wrap 1=1 from rfl) ?_
    refine qR_s [some 6] [4] rfl (by simp only [Env.sh,List.map_cons,List.map_nil,ren_nlv];rfl) (sh_c ?_ sh_n) trivial
    show some (Blk.arr 1 [(flrow (txt el.l)).map (V.ren _),[V.ren _ (.ref 4 1 0 1 none)]])=some (Blk.arr 1 [flrow (txt el.l),flrow (tieB x)])
    rw [ren_row (closed_fl _),tie_frz (x:=x) (m:=1) (by simp [tieB,ha]) (by rw [show tieB x=[u8i x.chosen] by unfold tieB;rw [ha]];rfl)];rfl
   ·have e0:capV j=.ref 0 1 0 (j+1) none:=by unfold capV;rw [if_neg hj0]
    have e1':capV (j+1)=.ref 0 1 0 (j+1+1) none:=rfl
    rw [e0,e1']
    refine wDrawD rfl ?_
    refine dops_op rfl rfl rfl rfl (by kernel_rfl) ?_;refine dops_op rfl rfl rfl rfl (by kernel_rfl) ?_;refine dops_op rfl rfl rfl rfl (by kernel_rfl) ?_;refine dops_op rfl rfl rfl rfl (by kernel_rfl) ?_;refine dops_op rfl rfl rfl rfl (by kernel_rfl) ?_
    simp only [seval,push_cast,↓reduceIte,↓bP_some,↓aP_true,reduceCtorEq,happ_eq,upds_nil,upds_cons,List.map_nil,List.append_nil]
    refine dops_lendM [1] rfl rfl rfl rfl kc rfl (by kernel_rfl) ?_
    simp only [seval,push_cast,↓reduceIte,↓bP_some,↓aP_true,reduceCtorEq,happ_eq,upds_nil,upds_cons,List.map_nil,List.append_nil,ren_up_ref,List.map_cons,Option.map_some,Option.map_none,List.length_cons,List.length_nil,List.cons_append,List.nil_append,c1']
    refine dops_op rfl rfl rfl rfl (by kernel_rfl) ?_;refine dops_op rfl rfl rfl rfl (by kernel_rfl) ?_;refine dops_op rfl rfl rfl rfl (by kernel_rfl) ?_
    simp only [seval,push_cast,↓reduceIte,↓bP_some,↓aP_true,reduceCtorEq,happ_eq,upds_nil,upds_cons,List.map_nil,List.append_nil]
    refine dops_lendM [] rfl rfl rfl (congrArg (fun v=>[v]) ren_nlv) ka rfl (by kernel_rfl) ?_
    simp only [seval,push_cast,↓reduceIte,↓bP_some,↓aP_true,reduceCtorEq,happ_eq,upds_nil,upds_cons,List.map_nil,List.append_nil,ren_up_ref,List.map_cons,Option.map_some,Option.map_none,List.length_cons,List.length_nil,List.cons_append,List.nil_append,c1',c2']
    refine dops_apB rfl rfl (ap_own (rows:=[byrow (u8i x.chosen)]) (ys:=[]) rfl rfl rfl (by simp)) rfl (by kernel_rfl) ?_
    simp only [seval,push_cast,↓reduceIte,↓bP_some,↓aP_true,reduceCtorEq,happ_eq,upds_nil,upds_cons,List.map_nil,List.append_nil]
    refine dops_op rfl rfl rfl rfl (by kernel_rfl) ?_
    simp only [seval,push_cast,↓reduceIte,↓bP_some,↓aP_true,reduceCtorEq,happ_eq,upds_nil,upds_cons,List.map_nil,List.append_nil]
    refine dops_apB rfl rfl (ap_own (rows:=R) hRl rfl (rowsOf_ref1 (m:=1) rfl rfl) (by simp;omega)) rfl (by kernel_rfl) ?_
    simp only [seval,push_cast,↓reduceIte,↓bP_some,↓aP_true,reduceCtorEq,happ_eq,upds_nil,upds_cons,List.map_nil,List.append_nil]
    refine dops_op rfl rfl rfl rfl (by kernel_rfl) ?_
    simp only [seval,push_cast,↓reduceIte,↓bP_some,↓aP_true,reduceCtorEq,happ_eq,upds_nil,upds_cons,List.map_nil,List.append_nil]
    refine dops_nil ?_
    simp only [seval,push_cast,↓reduceIte,↓bP_some,↓aP_true,reduceCtorEq,happ_eq,upds_nil,upds_cons,List.map_nil,List.append_nil]
    refine Wf0 hw ?_
    refine qR_s [some 6] [4] rfl (by simp only [Env.sh,List.map_cons,List.map_nil,ren_nlv];rfl) (sh_c ?_ sh_n) trivial
    show some (Blk.arr 1 ((R++[[V.ref 4 1 0 1 none]]).map fun (r:List V)=>r.map (V.ren _)))=_
    rw [List.map_append,hRm]
    show some (Blk.arr 1 (R++[[V.ren _ (.ref 4 1 0 1 none)]]))=_
    rw [tie_frz (x:=x) (m:=1) (by simp [tieB,ha]) (by rw [show tieB x=[u8i x.chosen] by unfold tieB;rw [ha]];rfl)];rfl
  ·have ka:MFn L 31 [nlv mrow 1 x.among] (.ref 0 1 0 (txt x.among.l).length none) [some (.arr 1 ((txt x.among.l).map byrow))]:=by rw [accV_cons ha,accB_cons ha] at ka';exact ka'
   by_cases hj0:j=0
   ·obtain rfl:=hR0 hj0
    subst hj0
    have e0:capV 0=.ref 0 1 0 1 (some 1):=rfl
    have e1':capV (0+1)=.ref 0 1 0 2 none:=rfl
    rw [e0,e1']
    refine wDrawD rfl ?_
    refine dops_op rfl rfl rfl rfl (by kernel_rfl) ?_;refine dops_op rfl rfl rfl rfl (by kernel_rfl) ?_;refine dops_op rfl rfl rfl rfl (by kernel_rfl) ?_;refine dops_op rfl rfl rfl rfl (by kernel_rfl) ?_;refine dops_op rfl rfl rfl rfl (by kernel_rfl) ?_
    simp only [seval,push_cast,↓reduceIte,↓bP_some,↓aP_true,reduceCtorEq,happ_eq,upds_nil,upds_cons,List.map_nil,List.append_nil]
    refine dops_lendM [1] rfl rfl rfl rfl kc rfl (by kernel_rfl) ?_
    simp only [seval,push_cast,↓reduceIte,↓bP_some,↓aP_true,reduceCtorEq,happ_eq,upds_nil,upds_cons,List.map_nil,List.append_nil,ren_up_ref,List.map_cons,Option.map_some,Option.map_none,List.length_cons,List.length_nil,List.cons_append,List.nil_append,c1']
    refine dops_op rfl rfl rfl rfl (by kernel_rfl) ?_;refine dops_op rfl rfl rfl rfl (by kernel_rfl) ?_;refine dops_op rfl rfl rfl rfl (by kernel_rfl) ?_
    simp only [seval,push_cast,↓reduceIte,↓bP_some,↓aP_true,reduceCtorEq,happ_eq,upds_nil,upds_cons,List.map_nil,List.append_nil]
    refine dops_lendM [] rfl rfl rfl (congrArg (fun v=>[v]) ren_nlv) ka rfl (by kernel_rfl) ?_
    simp only [seval,push_cast,↓reduceIte,↓bP_some,↓aP_true,reduceCtorEq,happ_eq,upds_nil,upds_cons,List.map_nil,List.append_nil,ren_up_ref,List.map_cons,Option.map_some,Option.map_none,List.length_cons,List.length_nil,List.cons_append,List.nil_append,c1',c2']
    refine dops_apB rfl rfl (ap_own (rows:=[byrow (u8i x.chosen)]) (ys:=(txt x.among.l).map byrow) rfl rfl (rowsOf_ref1 (by rw [List.length_map]) rfl) (by rw [List.length_map];omega)) rfl (by kernel_rfl) ?_
    simp only [seval,push_cast,↓reduceIte,↓bP_some,↓aP_true,reduceCtorEq,happ_eq,upds_nil,upds_cons,List.map_nil,List.append_nil]
    refine dops_op rfl rfl rfl rfl (by kernel_rfl) ?_
    simp only [seval,push_cast,↓reduceIte,↓bP_some,↓aP_true,reduceCtorEq,happ_eq,upds_nil,upds_cons,List.map_nil,List.append_nil]
    refine dops_apB rfl rfl (ap_cap1 (r0:=flrow (txt el.l)) rfl rfl (by decide)) rfl (by kernel_rfl) ?_
    simp only [seval,push_cast,↓reduceIte,↓bP_some,↓aP_true,reduceCtorEq,happ_eq,upds_nil,upds_cons,List.map_nil,List.append_nil]
    refine dops_op rfl rfl rfl rfl (by kernel_rfl) ?_
    simp only [seval,push_cast,↓reduceIte,↓bP_some,↓aP_true,reduceCtorEq,happ_eq,upds_nil,upds_cons,List.map_nil,List.append_nil]
    refine dops_nil ?_
    simp only [seval,push_cast,↓reduceIte,↓bP_some,↓aP_true,reduceCtorEq,happ_eq,upds_nil,upds_cons,List.map_nil,List.append_nil]
    refine Wf0 (show IntKind.i64.wrap 1=1 from rfl) ?_
    refine qR_s [some 6] [4] rfl (by simp only [Env.sh,List.map_cons,List.map_nil,ren_nlv];rfl) (sh_c ?_ sh_n) trivial
    show some (Blk.arr 1 [(flrow (txt el.l)).map (V.ren _),[V.ren _ (.ref 4 1 0 (1+(txt x.among.l).length) none)]])=some (Blk.arr 1 [flrow (txt el.l),flrow (tieB x)])
    rw [ren_row (closed_fl _),tie_frz (x:=x) (m:=1+(txt x.among.l).length) (by simp [tieB];omega) (by rfl)];rfl
   ·have e0:capV j=.ref 0 1 0 (j+1) none:=by unfold capV;rw [if_neg hj0]
    have e1':capV (j+1)=.ref 0 1 0 (j+1+1) none:=rfl
    rw [e0,e1']
    refine wDrawD rfl ?_
    refine dops_op rfl rfl rfl rfl (by kernel_rfl) ?_;refine dops_op rfl rfl rfl rfl (by kernel_rfl) ?_;refine dops_op rfl rfl rfl rfl (by kernel_rfl) ?_;refine dops_op rfl rfl rfl rfl (by kernel_rfl) ?_;refine dops_op rfl rfl rfl rfl (by kernel_rfl) ?_
    simp only [seval,push_cast,↓reduceIte,↓bP_some,↓aP_true,reduceCtorEq,happ_eq,upds_nil,upds_cons,List.map_nil,List.append_nil]
    refine dops_lendM [1] rfl rfl rfl rfl kc rfl (by kernel_rfl) ?_
    simp only [seval,push_cast,↓reduceIte,↓bP_some,↓aP_true,reduceCtorEq,happ_eq,upds_nil,upds_cons,List.map_nil,List.append_nil,ren_up_ref,List.map_cons,Option.map_some,Option.map_none,List.length_cons,List.length_nil,List.cons_append,List.nil_append,c1']
    refine dops_op rfl rfl rfl rfl (by kernel_rfl) ?_;refine dops_op rfl rfl rfl rfl (by kernel_rfl) ?_;refine dops_op rfl rfl rfl rfl (by kernel_rfl) ?_
    simp only [seval,push_cast,↓reduceIte,↓bP_some,↓aP_true,reduceCtorEq,happ_eq,upds_nil,upds_cons,List.map_nil,List.append_nil]
    refine dops_lendM [] rfl rfl rfl (congrArg (fun v=>[v]) ren_nlv) ka rfl (by kernel_rfl) ?_
    simp only [seval,push_cast,↓reduceIte,↓bP_some,↓aP_true,reduceCtorEq,happ_eq,upds_nil,upds_cons,List.map_nil,List.append_nil,ren_up_ref,List.map_cons,Option.map_some,Option.map_none,List.length_cons,List.length_nil,List.cons_append,List.nil_append,c1',c2']
    refine dops_apB rfl rfl (ap_own (rows:=[byrow (u8i x.chosen)]) (ys:=(txt x.among.l).map byrow) rfl rfl (rowsOf_ref1 (by rw [List.length_map]) rfl) (by rw [List.length_map];omega)) rfl (by kernel_rfl) ?_
    simp only [seval,push_cast,↓reduceIte,↓bP_some,↓aP_true,reduceCtorEq,happ_eq,upds_nil,upds_cons,List.map_nil,List.append_nil]
    refine dops_op rfl rfl rfl rfl (by kernel_rfl) ?_
    simp only [seval,push_cast,↓reduceIte,↓bP_some,↓aP_true,reduceCtorEq,happ_eq,upds_nil,upds_cons,List.map_nil,List.append_nil]
    refine dops_apB rfl rfl (ap_own (rows:=R) hRl rfl (rowsOf_ref1 (m:=1) rfl rfl) (by simp;omega)) rfl (by kernel_rfl) ?_
    simp only [seval,push_cast,↓reduceIte,↓bP_some,↓aP_true,reduceCtorEq,happ_eq,upds_nil,upds_cons,List.map_nil,List.append_nil]
    refine dops_op rfl rfl rfl rfl (by kernel_rfl) ?_
    simp only [seval,push_cast,↓reduceIte,↓bP_some,↓aP_true,reduceCtorEq,happ_eq,upds_nil,upds_cons,List.map_nil,List.append_nil]
    refine dops_nil ?_
    simp only [seval,push_cast,↓reduceIte,↓bP_some,↓aP_true,reduceCtorEq,happ_eq,upds_nil,upds_cons,List.map_nil,List.append_nil]
    refine Wf0 hw ?_
    refine qR_s [some 6] [4] rfl (by simp only [Env.sh,List.map_cons,List.map_nil,ren_nlv];rfl) (sh_c ?_ sh_n) trivial
    show some (Blk.arr 1 ((R++[[V.ref 4 1 0 (1+(txt x.among.l).length) none]]).map fun (r:List V)=>r.map (V.ren _)))=_
    rw [List.map_append,hRm]
    show some (Blk.arr 1 (R++[[V.ren _ (.ref 4 1 0 (1+(txt x.among.l).length) none)]]))=_
    rw [tie_frz (x:=x) (m:=1+(txt x.among.l).length) (by simp [tieB];omega) (by rfl)];rfl
 ·intro _
  rw [take_allq]
  refine Wn0 ?_
  have kj:=join_v hL (s:=1) (l:=txt el.l::ti.l.map tieB) (c:=if ti.l.length=0 then some 1 else none) (.inl rfl) (by simp;omega) (fun f hf=>by
   rcases List.mem_cons.1 hf with rfl|hf
   ·rw [txt_len];omega
   ·obtain ⟨t,ht,rfl⟩:=List.mem_map.1 hf
    have:t.among.l.length≤17592186044416:=h5 t ht
    simp only [tieB,List.length_cons,txt_len];omega)
  have hft:V.ren (sgOf [some (Blk.arr 1 ((txt el.l::ti.l.map tieB).map flrow))] [none] [0]) (capV ti.l.length)=tl flrow 1 (txt el.l::ti.l.map tieB) (if ti.l.length=0 then some 1 else none):=by
   have:=frz_refS' (f:=flrow) (n:=1) (a:=0) (fz:=[0]) (src:=[none]) (l:=txt el.l::ti.l.map tieB) (c:=if ti.l.length=0 then some 1 else none) (H:=[some (Blk.arr 1 ((txt el.l::ti.l.map tieB).map flrow))]) closed_fl (by decide) rfl rfl rfl
   rwa [show (txt el.l::ti.l.map tieB).length=ti.l.length+1 by simp] at this
  refine opsP_any rfl (AFn.eat [none] [0] rfl (vs:=[capV ti.l.length]) (Post:=fun r H'=>r=joinV (fldsO ⟨el,rd,ti⟩)∧H'=[none]) ?_) ?_
  ·show AFn L _ [V.ren (sgOf [some (Blk.arr 1 ((txt el.l::ti.l.map tieB).map flrow))] [none] [0]) (capV ti.l.length)] [none] _
   rw [hft]
   exact kj.at _
  rintro _ _ ⟨rfl,rfl⟩
  unfold joinV
  split
  ·refine Wn0 ?_
   exact FnQ.ret rfl rfl
  ·refine Wn0 ?_
   exact FnQ.ret rfl (by simp [V.closed,V.closeds,closed_nlv])
end Go.Proofs.YtigdhgbkgfagiaaGreat
namespace Go.Proofs.YtigdhgbkgfagiaaGreat
def rtieB (x:Tq):List UInt8:=rtx [x.chosen]++rtx x.among.l
def isJ (o:Oq) (j:Nat):Bool:=!(o.el.l.any odI)&&!((o.ties.l.take j).any odT)
theorem rtx_len {l:List Int}:(rtx l).length≤l.length:=by unfold rtx;split <;> simp [txt_len]
theorem rtx_good {l:List Int} (h:l.any odI=false):rtx l=txt l:=if_neg (by rw [h];simp)
theorem rtx_bad {l:List Int} (h:l.any odI=true):rtx l=[]:=if_pos h
theorem rtie_good {x:Tq} (h:odT x=false):rtieB x=tieB x:=by
 unfold odT at h
 rw [Bool.or_eq_false_iff] at h
 unfold rtieB tieB
 rw [rtx_good (show [x.chosen].any odI=false by simp [h.1]),rtx_good h.2];rfl
theorem rties_good:∀{l:List Tq},l.any odT=false→l.map rtieB=l.map tieB
 | [],_=>rfl
 | x::l,h=>by
  rw [List.any_cons,Bool.or_eq_false_iff] at h
  rw [List.map_cons,List.map_cons,rtie_good h.1,rties_good h.2]
theorem fld_frz {B:List UInt8} {H:Heap} {m:Nat} (hne:B≠[]) (hm:m=B.length) (h:H.get 4=some (.arr 1 (B.map byrow))):V.ren (sgOf H [some 6] [4]) (.ref 4 1 0 m none)=nlv byrow 1 (nzq B):=by
 subst hm
 rw [nzq_ne hne,nlv_full hne]
 exact frz_refS' closed_byrow (by decide) rfl rfl h
theorem take_rows {α:Type} {f:α→List V} {l:List α}:List.take l.length (l.map f)=l.map f:=List.take_of_length_le (by rw [List.length_map];exact Nat.le_refl _)
theorem nat_sub_acc {α:Type} {a n:Nat} {l:List α} {f:α→List V} {H:Heap} (hf:∀x,(f x).all V.closed=true):H++[accB f n l].map (Option.map (Blk.ren (upσ H.length)))=H++[accB f n l]:=by
 rw [List.map_cons,List.map_nil,acc_blk hf]
variable {L:Lib} (hL:L.T=tab.get)
include hL
theorem rtext_at {o:Nl Int} (ho:o.l.length≤17592186044416) (H:Heap):AFn L (.fn 35) [nlv mrow 1 o] H (fun r H'=>r=.tup [accV H.length 1 (rtx o.l),.bool (!o.l.any odI)]∧H'=H++[accB byrow 1 (rtx o.l)]):=by
 obtain ⟨s,c,g1,g2⟩:=nlv_tl (f:=mrow) (n:=1) (o:=o)
 rw [g1]
 refine AFn.mono ((rtext_m hL (c:=c) g2 ho).at H) ?_
 rintro _ _ ⟨rfl,rfl⟩
 refine ⟨?_,nat_sub_acc (a:=0) closed_byrow⟩
 show V.tup [V.ren _ (accV 0 1 (rtx o.l)),.bool _]=_
 rw [acc_ren (b:=H.length) (by simp [upσ])]
theorem rtext_eat {x:Int} {R:List (List V)} (hR:∀σ,Blk.ren σ (.arr 1 R)=.arr 1 R):AFn L (.fn 35) [.ref 1 1 0 1 (some 1)] [some (.arr 1 R),some (.arr 1 [[.int .i64 x]])] (fun r H'=>r=.tup [accV 2 1 (rtx [x]),.bool (![x].any odI)]∧H'=[some (.arr 1 R),none,accB byrow 1 (rtx [x])]):=by
 refine AFn.eat [some 0,none] [1] rfl ?_
 have e1:Heap.sh [some (Blk.arr 1 R),some (.arr 1 [[.int .i64 x]])] [some 0,none] [1]=[some (.arr 1 R),none]:=sh_c (congrArg some (hR _)) (sh_c rfl sh_n)
 rw [e1]
 show AFn L _ [tl mrow 1 [x] (some 1)] _ _
 refine AFn.mono ((rtext_m hL (s:=1) (l:=[x]) (c:=some 1) (.inl rfl) (by simp)).at _) ?_
 rintro _ _ ⟨rfl,rfl⟩
 refine ⟨?_,nat_sub_acc (a:=0) closed_byrow⟩
 show V.tup [V.ren _ (accV 0 1 (rtx [x])),.bool _]=_
 rw [acc_ren (b:=2) (by simp [upσ])]
theorem bytesR_v {o:Oq} (ho:okOq o):VFn L 12 [.agg (oqC o)] (bytesV o):=by
 obtain ⟨el,rd,ti⟩:=o
 obtain ⟨h1,⟨h2,h3⟩,h4,h5⟩:=ho
 simp only at h1 h2 h3 h4 h5
 have hel:el.l.length≤17592186044416:=h1
 refine VFn.start (F:=T12.1) (by rw [hL];rfl) rfl (by simp [V.closeds,V.closed,closed_nlv,oqC]) closed_bytesV ?_
 unfold oqC
 refine Wn0 ?_
 refine opsP_any rfl (rtext_at hL hel _) ?_
 rintro _ _ ⟨rfl,rfl⟩
 refine Wn0 ?_
 generalize hO:(⟨el,rd,ti⟩:Oq)=o at *
 have i0:isJ o 0=!el.l.any odI:=by rw [←hO];simp [isJ]
 refine wShift [some 2] [0,1] (E1:=[(1,V.iptr 3 [[nlv mrow 1 el,nlv dqrow 6 rd,nlv tqrow 2 ti]] 0 0),(5,V.bool (isJ o 0)),(6,capV 0),(7,.int .i64 0)]) (H1:=[some (.arr 1 ([rtx el.l].map flrow))]) rfl ?_ (sh_c ?_ sh_n) ?_
 ·have hs0:sgOf [some (Blk.arr 3 [[nlv mrow 1 el,nlv dqrow 6 rd,nlv tqrow 2 ti]]),accB byrow 1 (rtx el.l),some (Blk.arr 1 [[accV 1 1 (rtx el.l)]])] [some 2] [0,1] 0=.frz 3 [[nlv mrow 1 el,nlv dqrow 6 rd,nlv tqrow 2 ti]]:=by
    simp [sgOf,posIn,Heap.get,Blk.closed,closed_nlv,V.closed]
  have hs2:sgOf [some (Blk.arr 3 [[nlv mrow 1 el,nlv dqrow 6 rd,nlv tqrow 2 ti]]),accB byrow 1 (rtx el.l),some (Blk.arr 1 [[accV 1 1 (rtx el.l)]])] [some 2] [0,1] 2=.to 0:=rfl
  simp only [Env.sh,List.map_cons,List.map_nil,V.ren,hs0,hs2,capV,i0]
  rfl
 ·show some (Blk.arr 1 [[V.ren _ (accV 1 1 (rtx el.l))]])=_
  rw [acc_frz (fz:=[0,1]) (src:=[some 2]) closed_byrow (by decide) rfl rfl rfl];rfl
 refine wCntH rfl 7 ti.l.length (fun j=>[(5,.bool (isJ o j)),(6,capV j)]) (fun j=>[some (.arr 1 ((rtx el.l::(ti.l.take j).map rtieB).map flrow))]) (fun _=>True) rfl rfl trivial ?_ ?_
 ·intro j hj _
  obtain ⟨x,hx,hm⟩:=get_of hj
  have hw:=wrap_succ (show j < 9223372036854775807 by omega)
  have hjn:(j:Int) < (ti.l.length:Int):=by omega
  have hT:(rtx el.l::(ti.l.take (j+1)).map rtieB).map flrow=(rtx el.l::(ti.l.take j).map rtieB).map flrow++[flrow (rtieB x)]:=by rw [take_snoc hx];simp
  rw [hT]
  have hRl:((rtx el.l::(ti.l.take j).map rtieB).map flrow).length=j+1:=by simp;omega
  have hfl:∀σ,Blk.ren σ (.arr 1 ((rtx el.l::(ti.l.take j).map rtieB).map flrow))=.arr 1 ((rtx el.l::(ti.l.take j).map rtieB).map flrow):=fun σ=>ren_tl closed_fl
  have hRm:∀σ,((rtx el.l::(ti.l.take j).map rtieB).map flrow).map (fun r=>r.map (V.ren σ))=(rtx el.l::(ti.l.take j).map rtieB).map flrow:=fun σ=>ren_rows closed_fl
  have hR0:j=0→(rtx el.l::(ti.l.take j).map rtieB).map flrow=[flrow (rtx el.l)]:=fun e=>by subst e;simp
  generalize (rtx el.l::(ti.l.take j).map rtieB).map flrow=R at *
  have hI:isJ o (j+1)=(isJ o j&&(!odI x.chosen&&!x.among.l.any odI)):=by
   unfold isJ
   rw [←hO,take_snoc hx]
   simp [odT,Bool.and_assoc]
  rw [hI]
  generalize isJ o j=b0 at *
  have hax:x.among.l.length≤17592186044416:=h5 x hm
  have hal:(rtx x.among.l).length≤x.among.l.length:=rtx_len
  have kb:=rtext_eat hL (x:=x.chosen) hfl
  have ka:=rtext_at hL hax [some (.arr 1 R),none,accB byrow 1 (rtx [x.chosen])]
  have hB:rtieB x=rtx [x.chosen]++rtx x.among.l:=rfl
  rw [show [x.chosen].any odI=odI x.chosen by simp] at kb
  have hp:(odI x.chosen=true∧rtx [x.chosen]=[])∨(odI x.chosen=false∧rtx [x.chosen]=[u8i x.chosen]):=by
   cases h:odI x.chosen with
   | true=>exact .inl ⟨rfl,rtx_bad (by simp [h])⟩
   | false=>exact .inr ⟨rfl,by rw [rtx_good (by simp [h])];rfl⟩
  have hq:(x.among.l.any odI=true∧rtx x.among.l=[])∨(x.among.l.any odI=false∧rtx x.among.l=[])∨(x.among.l.any odI=false∧rtx x.among.l≠[]):=by
   cases h:x.among.l.any odI with
   | true=>exact .inl ⟨rfl,rtx_bad h⟩
   | false=>
    by_cases h2:rtx x.among.l=[]
    ·exact .inr (.inl ⟨rfl,h2⟩)
    ·exact .inr (.inr ⟨rfl,h2⟩)
  refine Wf0 (Q4 hj (iN hj) hx @tqrow_eq) ?_
  refine opsP_any rfl kb ?_
  rintro _ _ ⟨rfl,rfl⟩
  refine Wf0 (Q4 hj (iN hj) hx @tqrow_eq) ?_
  refine opsP_any rfl ka ?_
  rintro _ _ ⟨rfl,rfl⟩
  rw [hB]
  generalize rtx [x.chosen]=P at *
  generalize rtx x.among.l=Q at *
  generalize odI x.chosen=b1 at *
  generalize x.among.l.any odI=b2 at *
  generalize u8i x.chosen=u at *
  have hr1:(1+Q.length)*1≤140737488355328:=by omega
  have hr2:Q.length*1≤140737488355328:=by omega
  have hr3:(j+1+1)*24≤140737488355328:=by omega
  have c1':∀σ,Blk.ren σ (.arr 1 [byrow u])=.arr 1 [byrow u]:=fun σ=>ren_tl (l:=[u]) closed_byrow
  have c2':∀σ,Blk.ren σ (.arr 1 (Q.map byrow))=.arr 1 (Q.map byrow):=fun σ=>ren_tl closed_byrow
  rcases hp with ⟨rfl,rfl⟩|⟨rfl,rfl⟩
  ·rcases hq with ⟨rfl,rfl⟩|⟨rfl,rfl⟩|⟨rfl,hQ⟩
   ·by_cases hj0:j=0
    ·obtain rfl:=hR0 hj0
     subst hj0
     rw [show capV 0=.ref 0 1 0 1 (some 1) from rfl,show capV (0+1)=.ref 0 1 0 2 none from rfl]
     simp only [accV_one,accB_one,accV_nil,accB_nil]
     cases b0 <;>
     ·refine Wf0 (Q5 hj (iN hj) hx @tqrow_eq (Q3 (show IntKind.i64.wrap 1=1 from rfl) hr3 hRl)) ?_
      refine qR_s [some 5] [] rfl rfl (sh_c ?_ sh_n) trivial
      show some (Blk.arr 1 [(flrow (rtx el.l)).map (V.ren _),[.lst 0 [] (some 0)]])=some (Blk.arr 1 [flrow (rtx el.l),flrow []])
      rw [ren_row (closed_fl _)];rfl
    ·rw [show capV j=.ref 0 1 0 (j+1) none by unfold capV;rw [if_neg hj0],show capV (j+1)=.ref 0 1 0 (j+1+1) none from rfl]
     simp only [accV_one,accB_one,accV_nil,accB_nil]
     cases b0 <;>
     ·refine Wf0 (Q5 hj (iN hj) hx @tqrow_eq (Q3 hw hr3 hRl)) ?_
      refine qR_s [some 5] [] rfl rfl (sh_c ?_ sh_n) trivial
      show some (Blk.arr 1 ((R++[[V.lst 0 [] (some 0)]]).map fun (r:List V)=>r.map (V.ren _)))=_
      rw [List.map_append,hRm];rfl
   ·by_cases hj0:j=0
    ·obtain rfl:=hR0 hj0
     subst hj0
     rw [show capV 0=.ref 0 1 0 1 (some 1) from rfl,show capV (0+1)=.ref 0 1 0 2 none from rfl]
     simp only [accV_one,accB_one,accV_nil,accB_nil]
     cases b0 <;>
     ·refine Wf0 (Q5 hj (iN hj) hx @tqrow_eq (Q3 (show IntKind.i64.wrap 1=1 from rfl) hr3 hRl)) ?_
      refine qR_s [some 5] [] rfl rfl (sh_c ?_ sh_n) trivial
      show some (Blk.arr 1 [(flrow (rtx el.l)).map (V.ren _),[.lst 0 [] (some 0)]])=some (Blk.arr 1 [flrow (rtx el.l),flrow []])
      rw [ren_row (closed_fl _)];rfl
    ·rw [show capV j=.ref 0 1 0 (j+1) none by unfold capV;rw [if_neg hj0],show capV (j+1)=.ref 0 1 0 (j+1+1) none from rfl]
     simp only [accV_one,accB_one,accV_nil,accB_nil]
     cases b0 <;>
     ·refine Wf0 (Q5 hj (iN hj) hx @tqrow_eq (Q3 hw hr3 hRl)) ?_
      refine qR_s [some 5] [] rfl rfl (sh_c ?_ sh_n) trivial
      show some (Blk.arr 1 ((R++[[V.lst 0 [] (some 0)]]).map fun (r:List V)=>r.map (V.ren _)))=_
      rw [List.map_append,hRm];rfl
   ·by_cases hj0:j=0
    ·obtain rfl:=hR0 hj0
     subst hj0
     rw [show capV 0=.ref 0 1 0 1 (some 1) from rfl,show capV (0+1)=.ref 0 1 0 2 none from rfl]
     simp only [accV_one,accB_one,accV_nil,accB_nil]
     rw [accV_cons hQ,accB_cons hQ]
     have h0:¬Q.length=0:=fun e=>hQ (List.length_eq_zero_iff.1 e)
     have h1q:0 < Q.length:=by omega
     cases b0 <;>
     ·refine Wf0 (Q5 hj (iN hj) hx @tqrow_eq (Q5 (show IntKind.i64.wrap 1=1 from rfl) h0 hr1 hr2 (Q4 hr3 hRl h1q (take_rows (l:=Q) (f:=byrow))))) ?_
      refine qR_s [some 6] [4] rfl rfl (sh_c ?_ sh_n) trivial
      show some (Blk.arr 1 [(flrow (rtx el.l)).map (V.ren _),[V.ren _ (.ref 4 1 0 Q.length none)]])=some (Blk.arr 1 [flrow (rtx el.l),flrow Q])
      rw [ren_row (closed_fl _),fld_frz (B:=Q) (m:=Q.length) hQ (by simp) rfl];rfl
    ·rw [show capV j=.ref 0 1 0 (j+1) none by unfold capV;rw [if_neg hj0],show capV (j+1)=.ref 0 1 0 (j+1+1) none from rfl]
     simp only [accV_one,accB_one,accV_nil,accB_nil]
     rw [accV_cons hQ,accB_cons hQ]
     have h0:¬Q.length=0:=fun e=>hQ (List.length_eq_zero_iff.1 e)
     have h1q:0 < Q.length:=by omega
     cases b0 <;>
     ·refine Wf0 (Q5 hj (iN hj) hx @tqrow_eq (Q5 hw h0 hr1 hr2 (Q4 hr3 hRl h1q (take_rows (l:=Q) (f:=byrow))))) ?_
      refine qR_s [some 6] [4] rfl rfl (sh_c ?_ sh_n) trivial
      show some (Blk.arr 1 ((R++[[V.ref 4 1 0 Q.length none]]).map fun (r:List V)=>r.map (V.ren _)))=_
      rw [List.map_append,hRm]
      show some (Blk.arr 1 (R++[[V.ren _ (.ref 4 1 0 Q.length none)]]))=_
      rw [fld_frz (B:=Q) (m:=Q.length) hQ (by simp) rfl];rfl
  ·rcases hq with ⟨rfl,rfl⟩|⟨rfl,rfl⟩|⟨rfl,hQ⟩
   ·by_cases hj0:j=0
    ·obtain rfl:=hR0 hj0
     subst hj0
     rw [show capV 0=.ref 0 1 0 1 (some 1) from rfl,show capV (0+1)=.ref 0 1 0 2 none from rfl]
     simp only [accV_one,accB_one,accV_nil,accB_nil]
     cases b0 <;>
     ·refine Wf0 (Q5 hj (iN hj) hx @tqrow_eq (Q3 (show IntKind.i64.wrap 1=1 from rfl) hr3 hRl)) ?_
      refine qR_s [some 6] [4] rfl rfl (sh_c ?_ sh_n) trivial
      show some (Blk.arr 1 [(flrow (rtx el.l)).map (V.ren _),[V.ren _ (.ref 4 1 0 1 none)]])=some (Blk.arr 1 [flrow (rtx el.l),flrow [u]])
      rw [ren_row (closed_fl _),fld_frz (B:=[u]) (m:=1) (by simp) (by simp) rfl];rfl
    ·rw [show capV j=.ref 0 1 0 (j+1) none by unfold capV;rw [if_neg hj0],show capV (j+1)=.ref 0 1 0 (j+1+1) none from rfl]
     simp only [accV_one,accB_one,accV_nil,accB_nil]
     cases b0 <;>
     ·refine Wf0 (Q5 hj (iN hj) hx @tqrow_eq (Q3 hw hr3 hRl)) ?_
      refine qR_s [some 6] [4] rfl rfl (sh_c ?_ sh_n) trivial
      show some (Blk.arr 1 ((R++[[V.ref 4 1 0 1 none]]).map fun (r:List V)=>r.map (V.ren _)))=_
      rw [List.map_append,hRm]
      show some (Blk.arr 1 (R++[[V.ren _ (.ref 4 1 0 1 none)]]))=_
      rw [fld_frz (B:=[u]) (m:=1) (by simp) (by simp) rfl];rfl
   ·by_cases hj0:j=0
    ·obtain rfl:=hR0 hj0
     subst hj0
     rw [show capV 0=.ref 0 1 0 1 (some 1) from rfl,show capV (0+1)=.ref 0 1 0 2 none from rfl]
     simp only [accV_one,accB_one,accV_nil,accB_nil]
     cases b0 <;>
     ·refine Wf0 (Q5 hj (iN hj) hx @tqrow_eq (Q3 (show IntKind.i64.wrap 1=1 from rfl) hr3 hRl)) ?_
      refine qR_s [some 6] [4] rfl rfl (sh_c ?_ sh_n) trivial
      show some (Blk.arr 1 [(flrow (rtx el.l)).map (V.ren _),[V.ren _ (.ref 4 1 0 1 none)]])=some (Blk.arr 1 [flrow (rtx el.l),flrow [u]])
      rw [ren_row (closed_fl _),fld_frz (B:=[u]) (m:=1) (by simp) (by simp) rfl];rfl
    ·rw [show capV j=.ref 0 1 0 (j+1) none by unfold capV;rw [if_neg hj0],show capV (j+1)=.ref 0 1 0 (j+1+1) none from rfl]
     simp only [accV_one,accB_one,accV_nil,accB_nil]
     cases b0 <;>
     ·refine Wf0 (Q5 hj (iN hj) hx @tqrow_eq (Q3 hw hr3 hRl)) ?_
      refine qR_s [some 6] [4] rfl rfl (sh_c ?_ sh_n) trivial
      show some (Blk.arr 1 ((R++[[V.ref 4 1 0 1 none]]).map fun (r:List V)=>r.map (V.ren _)))=_
      rw [List.map_append,hRm]
      show some (Blk.arr 1 (R++[[V.ren _ (.ref 4 1 0 1 none)]]))=_
      rw [fld_frz (B:=[u]) (m:=1) (by simp) (by simp) rfl];rfl
   ·by_cases hj0:j=0
    ·obtain rfl:=hR0 hj0
     subst hj0
     rw [show capV 0=.ref 0 1 0 1 (some 1) from rfl,show capV (0+1)=.ref 0 1 0 2 none from rfl]
     simp only [accV_one,accB_one,accV_nil,accB_nil]
     rw [accV_cons hQ,accB_cons hQ]
     have h0:¬Q.length=0:=fun e=>hQ (List.length_eq_zero_iff.1 e)
     have h1q:0 < Q.length:=by omega
     cases b0 <;>
     ·refine Wf0 (Q5 hj (iN hj) hx @tqrow_eq (Q5 (show IntKind.i64.wrap 1=1 from rfl) h0 hr1 hr2 (Q4 hr3 hRl h1q (take_rows (l:=Q) (f:=byrow))))) ?_
      refine qR_s [some 6] [4] rfl rfl (sh_c ?_ sh_n) trivial
      show some (Blk.arr 1 [(flrow (rtx el.l)).map (V.ren _),[V.ren _ (.ref 4 1 0 (1+Q.length) none)]])=some (Blk.arr 1 [flrow (rtx el.l),flrow (u::Q)])
      rw [ren_row (closed_fl _),fld_frz (B:=(u::Q)) (m:=(1+Q.length)) (by simp) (by simp;omega) rfl];rfl
    ·rw [show capV j=.ref 0 1 0 (j+1) none by unfold capV;rw [if_neg hj0],show capV (j+1)=.ref 0 1 0 (j+1+1) none from rfl]
     simp only [accV_one,accB_one,accV_nil,accB_nil]
     rw [accV_cons hQ,accB_cons hQ]
     have h0:¬Q.length=0:=fun e=>hQ (List.length_eq_zero_iff.1 e)
     have h1q:0 < Q.length:=by omega
     cases b0 <;>
     ·refine Wf0 (Q5 hj (iN hj) hx @tqrow_eq (Q5 hw h0 hr1 hr2 (Q4 hr3 hRl h1q (take_rows (l:=Q) (f:=byrow))))) ?_
      refine qR_s [some 6] [4] rfl rfl (sh_c ?_ sh_n) trivial
      show some (Blk.arr 1 ((R++[[V.ref 4 1 0 (1+Q.length) none]]).map fun (r:List V)=>r.map (V.ren _)))=_
      rw [List.map_append,hRm]
      show some (Blk.arr 1 (R++[[V.ren _ (.ref 4 1 0 (1+Q.length) none)]]))=_
      rw [fld_frz (B:=(u::Q)) (m:=(1+Q.length)) (by simp) (by simp;omega) rfl];rfl
 ·intro _
  rw [take_allq]
  have hio:isJ o ti.l.length=!odO o:=by rw [←hO];unfold isJ odO;rw [take_allq,Bool.not_or]
  rw [hio]
  cases hod:odO o with
  | true=>
   rw [show bytesV o=.tup [.lst 0 [] (some 0),.int .i64 2] by unfold bytesV;rw [hod];rfl]
   refine Wn0 ?_
   exact FnQ.ret rfl rfl
  | false=>
  have hgd:rtx el.l::ti.l.map rtieB=fldsO o:=by
   rw [←hO] at hod ⊢
   unfold odO at hod
   rw [Bool.or_eq_false_iff] at hod
   show _=txt el.l::ti.l.map tieB
   rw [rtx_good hod.1,rties_good hod.2]
  rw [show bytesV o=joinV (fldsO o) by unfold bytesV;rw [hod];rfl,←hgd]
  refine Wn0 ?_
  have kj:=joinR_v hL (s:=1) (l:=rtx el.l::ti.l.map rtieB) (c:=if ti.l.length=0 then some 1 else none) (.inl rfl) (by simp;omega) (fun f hf=>by
   rcases List.mem_cons.1 hf with rfl|hf
   ·have:=rtx_len (l:=el.l);omega
   ·obtain ⟨t,ht,rfl⟩:=List.mem_map.1 hf
    have h6:t.among.l.length≤17592186044416:=h5 t ht
    have h7:=rtx_len (l:=t.among.l)
    have h8:=rtx_len (l:=[t.chosen])
    simp only [rtieB,List.length_append,List.length_singleton] at h8 ⊢;omega)
  have hft:V.ren (sgOf [some (Blk.arr 1 ((rtx el.l::ti.l.map rtieB).map flrow))] [none] [0]) (capV ti.l.length)=tl flrow 1 (rtx el.l::ti.l.map rtieB) (if ti.l.length=0 then some 1 else none):=by
   have:=frz_refS' (f:=flrow) (n:=1) (a:=0) (fz:=[0]) (src:=[none]) (l:=rtx el.l::ti.l.map rtieB) (c:=if ti.l.length=0 then some 1 else none) (H:=[some (Blk.arr 1 ((rtx el.l::ti.l.map rtieB).map flrow))]) closed_fl (by decide) rfl rfl rfl
   rwa [show (rtx el.l::ti.l.map rtieB).length=ti.l.length+1 by simp] at this
  refine opsP_any rfl (AFn.eat [none] [0] rfl (vs:=[capV ti.l.length]) (Post:=fun r H'=>r=joinV (rtx el.l::ti.l.map rtieB)∧H'=[none]) ?_) ?_
  ·show AFn L _ [V.ren (sgOf [some (Blk.arr 1 ((rtx el.l::ti.l.map rtieB).map flrow))] [none] [0]) (capV ti.l.length)] [none] _
   rw [hft]
   exact kj.at _
  rintro _ _ ⟨rfl,rfl⟩
  unfold joinV
  split
  ·refine Wn0 ?_
   exact FnQ.ret rfl rfl
  ·refine Wn0 ?_
   exact FnQ.ret rfl (by simp [V.closed,V.closeds,closed_nlv])
end Go.Proofs.YtigdhgbkgfagiaaGreat
