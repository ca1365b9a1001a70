/- Elections begun, in bytes, compared, copied: the law, walked. · What the laws of elections are given: terms, outcomes, elections, as values of AL. -/
import Derived.Test.YtigdhgbkgfagiaaGreatVE5
import Derived.Test.YtigdhgbkgfagiaaGreatVE7
import Derived.Test.YtigdhgbkgfagiaaGreatRows
import Derived.Test.YtigdhgbkgfagiaaGreatVM2
import Derived.ShutString
set_option maxRecDepth 100000
set_option maxHeartbeats 4000000
set_option linter.unusedVariables false
set_option linter.unusedSimpArgs false
namespace Go.Proofs.YtigdhgbkgfagiaaGreat
theorem bytesV_form (o:Oq):∃(B:List UInt8) (e:Int),bytesV o=.tup [nlv byrow 1 (nzq B),.int .i64 e]:=by
 unfold bytesV joinV
 split
 ·exact ⟨[],2,rfl⟩
 ·split
  ·exact ⟨[],4,rfl⟩
  ·exact ⟨_,0,rfl⟩
theorem okEl_nz {x:El} (h:okEl x):okEl x.nz:=⟨h.t,h.roll,h.recs,h.lot,h.o,by show (nzq x.board.l).l.length≤_;rw [nzq_l];exact h.board.1,by show ∀e∈(nzq x.board.l).l,okEn e;rw [nzq_l];exact h.board.2⟩
theorem elS_nz (x:El):elS x.nz x=true:=by
 have h:elS x.nz x=elS x x:=by unfold elS enS El.nz;dsimp only;rw [nzq_l]
 rw [h,elS_refl]
theorem elS_nz' (x:El):elS x x.nz=true:=by
 have h:elS x x.nz=elS x x:=by unfold elS enS El.nz;dsimp only;rw [nzq_l]
 rw [h,elS_refl]
theorem okTm_z:okTm zTm:=by constructor <;> simp [zTm,Nl.l,limOk]
theorem okEl_begE {t:Tm} (ht:okTm t):okEl (begE t):=by
 unfold begE
 split
 ·exact okEl_B ht 1
 ·exact okEl_B okTm_z 0
theorem take_el (x:El):List.take 54 (elC x)=elC x:=List.take_of_length_le (Nat.le_of_eq (elC_len x))
theorem tmC_len (t:Tm):(tmC t).length=14:=rfl
theorem oqC_len (o:Oq):(oqC o).length=3:=rfl
theorem take_tm (t:Tm):List.take 14 (tmC t)=tmC t:=List.take_of_length_le (Nat.le_of_eq (tmC_len t))
theorem take_oq (o:Oq):List.take 3 (oqC o)=oqC o:=List.take_of_length_le (Nat.le_of_eq (oqC_len o))
section
variable {L:Lib} {i:AI} {l:List AI} {rs:List Rec} {ms:List Nat} {K:Env→Heap→Prop} {E:Env} {H:Heap}
theorem dops_valB {v:V} (hg:i.goes E.get=some true) (hc:i.op.isCall=false) (he:i.op.exec H.length H.get (opval L.G E.get)=some { v:=v })
    (hi:indB (ancM ms i.anc) { dst:=i.dst,looks:=i.looks,v:=some v,need:=[],eff:=[],slot:=H.length,k:=0 } 0 rs=true)
    (k:dopsP L l (rs++[{ dst:=i.dst,looks:=i.looks,v:=some v,need:=[],eff:=[],slot:=H.length,k:=0 }]) (ms++[ancM ms i.anc]) K (E.put i.dst v) H):dopsP L (i::l) rs ms K E H:=by
 refine dops_op (e:={ v:=v }) hg hc he rfl hi ?_
 rw [happ_eq,upds_nil,List.map_nil,List.append_nil]
 exact k
theorem ex_bin {o:BinOp} {a b:AOpd} {va vb v:V} {n:Nat} {g:Nat→Option Blk} {ρ:AOpd→Option V} (ha:ρ a=some va) (hb:ρ b=some vb) (hv:binV o va vb=some v):AOp.exec n g ρ (.bin o a b)=some { v:=v }:=by
 show ((ρ a).bind fun x=>(ρ b).bind fun y=>(binV o x y).bind fun v=>some ({ v:=v }:Eff))=_
 rw [ha,hb]
 show (binV o va vb).bind _=_
 rw [hv];rfl
theorem ex_ld {n m:Nat} {cs:List V} {p:AOpd} {g:Nat→Option Blk} {ρ:AOpd→Option V} (hp:ρ p=some (.iptr n [cs] 0 0)) (hl:cs.length=n):AOp.exec m g ρ (.load n false p)=some { v:=.agg cs }:=by
 show (ρ p).bind (loadV (shG (((ρ p).map V.psz).getD 0) g) n false)=_
 rw [hp]
 show ((([cs]:List (List V))[0]?).bind fun row=>(takeCells row 0 n false).bind fun v=>some ({ v:=v }:Eff))=_
 simp [takeCells,←hl]
theorem ex_str {o:Nl UInt8} {m:Nat} {x:AOpd} {g:Nat→Option Blk} {ρ:AOpd→Option V} (hx:ρ x=some (nlv byrow 1 o)):AOp.exec m g ρ (.string x)=some { v:=.str o.l }:=by
 show ((ρ x).bind fun x=>(match x with|.str _=>none|_=>some ()).bind fun _=>(rowsOf 1 (shG 1 g) x).bind fun p=>(p.1.foldr unRow (some [])).bind fun s=>some ({ v:=.str s,need:=p.2 }:Eff))=_
 have h:=rows_by (o:=o) (g:=shG 1 g)
 rw [hx,Option.bind_some]
 obtain ⟨s,c,h1,h2⟩:=nlv_tl (f:=byrow) (n:=1) (o:=o)
 rw [h1] at h ⊢
 simp only [tl] at h ⊢
 rw [Option.bind_some,h]
 simp [unrow_bytes]
end
theorem eqn_i {n:Int}:binV .eql (.int .i64 n) (.int .i64 n)=some (.bool true):=by simp [binV,binInt]
theorem eqn_s {n:List UInt8}:binV .eql (.str n) (.str n)=some (.bool true):=by rw [s_eql];simp
variable {L:Lib} (hL:L.T=tab.get)
include hL
theorem begins_v {t:Tm} {o:Oq} {x y:El} (ht:okTm t) (hnm:t.name.length < 4611686018427387904) (hcs:∀x∈t.cands.l,x.length < 4611686018427387904) (ho:okOq o) (hx:okEl x) (hy:okEl y):VFn L 3 [.agg (tmC t),.agg (oqC o),.agg (elC x),.agg (elC y)] (.bool true):=by
 have k1:=greatT_v hL ht
 have k2:=great22_v hL o ho
 have k3:=great43_v hL hx
 have k4:=great43_v hL hy
 have k5:=begin2_v hL ht
 have k6:=beginR_v hL ht hnm hcs
 have k7:=bytes_v hL ho
 have k8:=bytesR_v hL ho
 have k9:=elTwin_v hL hx
 have c1:=elr_v hL (okEl_begE ht) (okEl_begE ht)
 have c2:=elr_v hL (okEl_nz hx) hx
 have c3:=elp_v hL hx hy
 have c4:=elr_v hL hx hy
 have c5:=elp_v hL hx (okEl_nz hx)
 rw [elS_refl] at c1
 rw [elS_nz] at c2
 rw [elS_nz'] at c5
 obtain ⟨B,e,hB⟩:=bytesV_form o
 rw [hB] at k7 k8
 refine VFn.start (F:=T3.1) (by rw [hL];rfl) rfl (by have a1:=k1.1;have a2:=k2.1;have a3:=k3.1;have a4:=k4.1;simp only [V.closeds,Bool.and_true] at *;rw [a1,a2,a3,a4];rfl) rfl ?_
 generalize greatT t=b1 at *
 generalize greatO o=b2 at *
 generalize greatE x=b3 at *
 generalize greatE y=b4 at *
 generalize begE t=z at *
 generalize begI t=n at *
 generalize elS x y=b5 at *
 generalize hxn:x.nz=xn at *
 have l1:=tmC_len t
 have l2:=oqC_len o
 have l3:=@elC_len
 have t1:=take_tm t
 have t2:=take_oq o
 have t3:=@take_el
 cases b1 with
 | true=>refine Wf1 (Q5 l1 l2 @elC_len t1 (Q2 t2 @take_el)) k1 ?_;exact FnQ.ret rfl rfl
 | false=>
 cases b2 with
 | true=>refine Wf2 (Q5 l1 l2 @elC_len t1 (Q2 t2 @take_el)) k1 k2 ?_;exact FnQ.ret rfl rfl
 | false=>
 cases b3 with
 | true=>refine Wf3 (Q5 l1 l2 @elC_len t1 (Q2 t2 @take_el)) k1 k2 k3 ?_;exact FnQ.ret rfl rfl
 | false=>
 cases b4 with
 | true=>refine Wf4 (Q5 l1 l2 @elC_len t1 (Q2 t2 @take_el)) k1 k2 k3 k4 ?_;exact FnQ.ret rfl rfl
 | false=>
 refine Wf8 (Q5 l1 l2 @elC_len t1 (Q2 t2 @take_el)) k1 k2 k3 k4 k5 k6 k7 k8 ?_
 refine Wf1 (Q5 l1 l2 @elC_len t1 (Q2 t2 @take_el)) k9 ?_
 have hcl:∀x:El,(elC x).all V.closed=true:=closed_elC
 refine wShift [] [2,3,4,5,6] (E1:=[(6,V.iptr 54 [elC x] 0 0),(7,V.iptr 54 [elC y] 0 0),(9,V.iptr 54 [elC z] 0 0),(10,V.int IntKind.i64 n),(11,V.iptr 54 [elC z] 0 0),(12,V.int IntKind.i64 n),(13,nlv byrow 1 (nzq B)),(14,V.int IntKind.i64 e),(15,nlv byrow 1 (nzq B)),(16,V.int IntKind.i64 e),(17,V.iptr 54 [elC xn] 0 0)]) (H1:=[]) rfl ?_ rfl ?_
 ·have hs:∀a:Nat,∀w:El,a∈[2,3,4,5,6]→Heap.get [some (Blk.arr 14 [tmC t]),some (Blk.arr 3 [oqC o]),some (Blk.arr 54 [elC x]),some (Blk.arr 54 [elC y]),some (Blk.arr 54 [elC z]),some (Blk.arr 54 [elC z]),some (Blk.arr 54 [elC xn])] a=some (.arr 54 [elC w])→sgOf [some (Blk.arr 14 [tmC t]),some (Blk.arr 3 [oqC o]),some (Blk.arr 54 [elC x]),some (Blk.arr 54 [elC y]),some (Blk.arr 54 [elC z]),some (Blk.arr 54 [elC z]),some (Blk.arr 54 [elC xn])] [] [2,3,4,5,6] a=.frz 54 [elC w]:=fun a w ha hg=>by
    have hb:(Blk.arr 54 [elC w]).closed=true:=by simp [Blk.closed,hcl]
    have hc2:([2,3,4,5,6]:List Nat).contains a=true:=by simpa using ha
    unfold sgOf
    simp only [posIn,hc2,hg,hb,cond_true]
  simp only [Env.sh,List.map_cons,List.map_nil,ren_nlv,V.ren,hs 2 x (by simp) rfl,hs 3 y (by simp) rfl,hs 4 z (by simp) rfl,hs 5 z (by simp) rfl,hs 6 xn (by simp) rfl]
  rfl
 cases b5 <;>
 ·refine wDrawD rfl ?_
  refine dops_valB rfl rfl (ex_ld (cs:=elC z) rfl (elC_len z)) (by kernel_rfl) ?_
  refine dops_valB rfl rfl (ex_ld (cs:=elC z) rfl (elC_len z)) (by kernel_rfl) ?_
  refine dops_call rfl rfl rfl c1 (by kernel_rfl) ?_
  simp only [seval,push_cast,↓reduceIte,↓bP_some,↓aP_true,reduceCtorEq,happ_eq,upds_nil,upds_cons,List.map_nil,List.append_nil]
  refine dops_op rfl rfl rfl rfl (by kernel_rfl) ?_;refine dops_op rfl rfl rfl rfl (by kernel_rfl) ?_;refine dops_op rfl rfl rfl rfl (by kernel_rfl) ?_
  simp only [seval,push_cast,↓reduceIte,↓bP_some,↓aP_true,reduceCtorEq,happ_eq,upds_nil,upds_cons,List.map_nil,List.append_nil]
  refine dops_valB rfl rfl (ex_bin rfl rfl eqn_i) (by kernel_rfl) ?_
  simp only [seval,push_cast,↓reduceIte,↓bP_some,↓aP_true,reduceCtorEq,happ_eq,upds_nil,upds_cons,List.map_nil,List.append_nil]
  refine dops_op rfl rfl rfl rfl (by kernel_rfl) ?_;refine dops_op rfl rfl rfl rfl (by kernel_rfl) ?_;refine dops_op rfl rfl rfl rfl (by kernel_rfl) ?_
  simp only [seval,push_cast,↓reduceIte,↓bP_some,↓aP_true,reduceCtorEq,happ_eq,upds_nil,upds_cons,List.map_nil,List.append_nil]
  refine dops_valB rfl rfl (ex_str (o:=nzq B) rfl) (by kernel_rfl) ?_
  simp only [seval,push_cast,↓reduceIte,↓bP_some,↓aP_true,reduceCtorEq,happ_eq,upds_nil,upds_cons,List.map_nil,List.append_nil]
  refine dops_op rfl rfl rfl rfl (by kernel_rfl) ?_
  simp only [seval,push_cast,↓reduceIte,↓bP_some,↓aP_true,reduceCtorEq,happ_eq,upds_nil,upds_cons,List.map_nil,List.append_nil]
  refine dops_valB rfl rfl (ex_str (o:=nzq B) rfl) (by kernel_rfl) ?_
  simp only [seval,push_cast,↓reduceIte,↓bP_some,↓aP_true,reduceCtorEq,happ_eq,upds_nil,upds_cons,List.map_nil,List.append_nil]
  refine dops_valB rfl rfl (ex_bin rfl rfl eqn_s) (by kernel_rfl) ?_
  simp only [seval,push_cast,↓reduceIte,↓bP_some,↓aP_true,reduceCtorEq,happ_eq,upds_nil,upds_cons,List.map_nil,List.append_nil]
  refine dops_op rfl rfl rfl rfl (by kernel_rfl) ?_;refine dops_op rfl rfl rfl rfl (by kernel_rfl) ?_;refine dops_op rfl rfl rfl rfl (by kernel_rfl) ?_;refine dops_op rfl rfl rfl rfl (by kernel_rfl) ?_
  simp only [seval,push_cast,↓reduceIte,↓bP_some,↓aP_true,reduceCtorEq,happ_eq,upds_nil,upds_cons,List.map_nil,List.append_nil]
  refine dops_valB rfl rfl (ex_bin rfl rfl eqn_i) (by kernel_rfl) ?_
  simp only [seval,push_cast,↓reduceIte,↓bP_some,↓aP_true,reduceCtorEq,happ_eq,upds_nil,upds_cons,List.map_nil,List.append_nil]
  refine dops_op rfl rfl rfl rfl (by kernel_rfl) ?_;refine dops_op rfl rfl rfl rfl (by kernel_rfl) ?_
  simp only [seval,push_cast,↓reduceIte,↓bP_some,↓aP_true,reduceCtorEq,happ_eq,upds_nil,upds_cons,List.map_nil,List.append_nil]
  refine dops_valB rfl rfl (ex_ld (cs:=elC xn) rfl (elC_len xn)) (by kernel_rfl) ?_
  refine dops_valB rfl rfl (ex_ld (cs:=elC x) rfl (elC_len x)) (by kernel_rfl) ?_
  simp only [seval,push_cast,↓reduceIte,↓bP_some,↓aP_true,reduceCtorEq,happ_eq,upds_nil,upds_cons,List.map_nil,List.append_nil]
  refine dops_call rfl rfl rfl c2 (by kernel_rfl) ?_
  simp only [seval,push_cast,↓reduceIte,↓bP_some,↓aP_true,reduceCtorEq,happ_eq,upds_nil,upds_cons,List.map_nil,List.append_nil]
  refine dops_op rfl rfl rfl rfl (by kernel_rfl) ?_;refine dops_op rfl rfl rfl rfl (by kernel_rfl) ?_
  simp only [seval,push_cast,↓reduceIte,↓bP_some,↓aP_true,reduceCtorEq,happ_eq,upds_nil,upds_cons,List.map_nil,List.append_nil]
  refine dops_valB rfl rfl (ex_ld (cs:=elC x) rfl (elC_len x)) (by kernel_rfl) ?_
  refine dops_valB rfl rfl (ex_ld (cs:=elC y) rfl (elC_len y)) (by kernel_rfl) ?_
  simp only [seval,push_cast,↓reduceIte,↓bP_some,↓aP_true,reduceCtorEq,happ_eq,upds_nil,upds_cons,List.map_nil,List.append_nil]
  refine dops_call rfl rfl rfl c3 (by kernel_rfl) ?_
  simp only [seval,push_cast,↓reduceIte,↓bP_some,↓aP_true,reduceCtorEq,happ_eq,upds_nil,upds_cons,List.map_nil,List.append_nil]
  refine dops_valB rfl rfl (ex_ld (cs:=elC x) rfl (elC_len x)) (by kernel_rfl) ?_
  refine dops_valB rfl rfl (ex_ld (cs:=elC y) rfl (elC_len y)) (by kernel_rfl) ?_
  simp only [seval,push_cast,↓reduceIte,↓bP_some,↓aP_true,reduceCtorEq,happ_eq,upds_nil,upds_cons,List.map_nil,List.append_nil]
  refine dops_call rfl rfl rfl c4 (by kernel_rfl) ?_
  simp only [seval,push_cast,↓reduceIte,↓bP_some,↓aP_true,reduceCtorEq,happ_eq,upds_nil,upds_cons,List.map_nil,List.append_nil]
  refine dops_op rfl rfl rfl rfl (by kernel_rfl) ?_;refine dops_op rfl rfl rfl rfl (by kernel_rfl) ?_;refine dops_op rfl rfl rfl rfl (by kernel_rfl) ?_
  simp only [seval,push_cast,↓reduceIte,↓bP_some,↓aP_true,reduceCtorEq,happ_eq,upds_nil,upds_cons,List.map_nil,List.append_nil]
  refine dops_valB rfl rfl (ex_ld (cs:=elC x) rfl (elC_len x)) (by kernel_rfl) ?_
  refine dops_valB rfl rfl (ex_ld (cs:=elC xn) rfl (elC_len xn)) (by kernel_rfl) ?_
  simp only [seval,push_cast,↓reduceIte,↓bP_some,↓aP_true,reduceCtorEq,happ_eq,upds_nil,upds_cons,List.map_nil,List.append_nil]
  refine dops_call rfl rfl rfl c5 (by kernel_rfl) ?_
  simp only [seval,push_cast,↓reduceIte,↓bP_some,↓aP_true,reduceCtorEq,happ_eq,upds_nil,upds_cons,List.map_nil,List.append_nil]
  refine dops_op rfl rfl rfl rfl (by kernel_rfl) ?_;refine dops_op rfl rfl rfl rfl (by kernel_rfl) ?_
  simp only [seval,push_cast,↓reduceIte,↓bP_some,↓aP_true,reduceCtorEq,happ_eq,upds_nil,upds_cons,List.map_nil,List.append_nil]
  refine dops_nil ?_
  simp only [seval,push_cast,↓reduceIte,↓bP_some,↓aP_true,reduceCtorEq,happ_eq,upds_nil,upds_cons,List.map_nil,List.append_nil]
  refine Wn0 ?_
  exact FnQ.ret rfl rfl
end Go.Proofs.YtigdhgbkgfagiaaGreat
namespace Go.Proofs.YtigdhgbkgfagiaaGreat
open Go.ChangeShapes Go.WideShapes Go.ChangeAt Go.RowKit
theorem own:ownKnob Tryz.prog.godebug=none:=by kernel_rfl
theorem laidOut:laidOutB Tryz.prog=true:=by kernel_rfl
theorem reach_each {H:Type} {ts:List TypeId} {ds:List (DataW H)} (h:(DataW.weightsEach Tryz.prog ts ds).all (·≤reachBytes)=true) {j:Nat} {t:TypeId} {d:DataW H} (ht:ts[j]?=some t) (hd:ds[j]?=some d):∀n∈d.weights Tryz.prog t,n≤reachBytes:=by
 intro n hn
 have:=List.all_eq_true.1 h _ (DataW.weights_mem_each ht hd n hn)
 exact of_decide_eq_true this
theorem OpenT.map2 {P:Program} {N:Nums} {α β:Type} {t:TypeId} {f:α→List V} {good:α→Prop} {f':β→List V} {good':β→Prop} (h:OpenT P N t f good) (g:α→β) (h1:∀a,good a→f' (g a)=f a) (h2:∀a,good a→good' (g a)):OpenT P N t f' good':=fun H enc W fuel cs d ps hd hr=>by
 obtain ⟨a,g1,g2,g3⟩:=h H enc W fuel cs d ps hd hr
 exact ⟨g a,h2 a g1,by rw [h1 a g1];exact g2,fun i c y hc hy=>g3 i c y (by rw [←h1 a g1];exact hc) hy⟩
theorem OpenT.seed {P:Program} {N:Nums} {t e:TypeId} (ht:P.underlying t=some (.array 32 e)) (he:P.underlying e=some (.int .u8)) (hc:P.cellsOf e=1) (hl:P.cellsOf t=32):OpenT P N t seedC (fun _=>True):=fun H enc W fuel cs d ps hd hr=>by
 obtain ⟨xs,m,_,hx,hlen,hxl,hfs⟩:=DataW.trod_array ht hd
 have key:∀i,∃n:Int,i < 32→cs[i]?=some (.int .u8 n):=fun i=>by
  by_cases hi:i < 32
  ·have h1:=hfs i hi
   rw [hc,Nat.mul_one,List.getElem?_eq_getElem (by omega)] at h1
   obtain ⟨n,hcs,_⟩:=DataW.trod_int he h1
   refine ⟨n,fun _=>?_⟩
   have h2:(List.take 1 (List.drop i cs))[0]?=some (.int .u8 n):=by rw [hcs];rfl
   simpa [List.getElem?_take,List.getElem?_drop] using h2
  ·exact ⟨0,fun h=>absurd h hi⟩
 refine ⟨fun i=>Classical.choose (key i),trivial,by rw [seedC_len,hlen,hl],fun i c y hci hy=>?_⟩
 have hi:i < 32:=by have:=(List.getElem?_eq_some_iff.1 hci).1;rwa [seedC_len] at this
 have h2:=Classical.choose_spec (key i) hi
 have h3:=Option.some.inj (hy.symm.trans h2)
 have h4:(seedC fun i=>Classical.choose (key i))[i]?=some (.int .u8 (Classical.choose (key i))):=by simp [seedC,hi]
 rw [h4] at hci
 cases hci
 rw [h3]
 exact ⟨rfl,.int _ _ _⟩
theorem reach_is:reachBytes=140737488351232:=by kernel_rfl
theorem b_int:Tryz.prog.bytesOf 3=8:=by kernel_rfl
theorem b_u32:Tryz.prog.bytesOf 148=4:=by kernel_rfl
theorem b_u8:Tryz.prog.bytesOf 5=1:=by kernel_rfl
theorem b_str:Tryz.prog.bytesOf 9=16:=by kernel_rfl
theorem b_vot:Tryz.prog.bytesOf 101=32:=by kernel_rfl
theorem b_bat:Tryz.prog.bytesOf 135=40:=by kernel_rfl
theorem b_bal:Tryz.prog.bytesOf 130=32:=by kernel_rfl
theorem b_rat:Tryz.prog.bytesOf 29=56:=by kernel_rfl
theorem b_rnd:Tryz.prog.bytesOf 77=128:=by kernel_rfl
theorem b_tie:Tryz.prog.bytesOf 79=32:=by kernel_rfl
theorem b_ent:Tryz.prog.bytesOf 83=32:=by kernel_rfl
theorem o_int:OpenT Tryz.prog CC.N 3 mrow (fun n=>-9223372036854775808≤n∧n≤9223372036854775807):=(OpenT.int Tryz.underlying3).map id (fun _=>rfl) (fun n h=>h)
theorem o_ints:OpenT Tryz.prog CC.N 30 (fun o:Nl Int=>[nlv mrow 1 o]) (fun o=>o.l.length≤17592186043904):=(OpenT.slice (n:=1) Tryz.underlying30 (by kernel_rfl) (by decide) (fun _=>rfl) o_int).map id (fun _=>rfl) (fun o h=>by have:=h.1;rw [b_int,reach_is] at this;simp only [id];omega)
theorem o_u32:OpenT Tryz.prog CC.N 148 nrow (fun n=>n < W32):=(OpenT.int Tryz.underlying148).map2 Int.toNat
 (fun n h=>by have:0≤n:=h.1;show [V.int .u32 ((n.toNat:Nat):Int)]=_;rw [Int.toNat_of_nonneg this]) (fun n h=>by have h1:0≤n:=h.1;have h2:n≤4294967295:=h.2;show n.toNat < 4294967296;omega)
theorem o_u32s:OpenT Tryz.prog CC.N 27 (fun o:Nl Nat=>[nlv nrow 1 o]) (fun o=>o.l.length≤35184372087808∧limOk o.l):=(OpenT.slice (n:=1) Tryz.underlying27 (by kernel_rfl) (by decide) (fun _=>rfl) o_u32).map id (fun _=>rfl) (fun o h=>⟨by have:=h.1;rw [b_u32,reach_is] at this;simp only [id];omega,h.2⟩)
theorem o_u8n:OpenT Tryz.prog CC.N 5 (fun n:Nat=>[.int .u8 n]) (fun n=>n < 256):=(OpenT.int Tryz.underlying5).map2 Int.toNat
 (fun n h=>by have:0≤n:=h.1;show [V.int .u8 ((n.toNat:Nat):Int)]=_;rw [Int.toNat_of_nonneg this]) (fun n h=>by have h1:0≤n:=h.1;have h2:n≤255:=h.2;omega)
theorem o_u8i:OpenT Tryz.prog CC.N 5 urow (fun _=>True):=(OpenT.int Tryz.underlying5).map id (fun _=>rfl) (fun _ _=>trivial)
theorem o_u8b:OpenT Tryz.prog CC.N 5 byrow (fun _=>True):=o_u8n.map2 UInt8.ofNat
 (fun n h=>by show [V.int .u8 (((UInt8.ofNat n).toNat:Nat):Int)]=_;rw [UInt8.toNat_ofNat',Nat.mod_eq_of_lt (by exact h)]) (fun _ _=>trivial)
theorem o_str:OpenT Tryz.prog CC.N 9 srow (fun s=>s.length < 4611686018427387904):=(OpenT.str Tryz.underlying9).map id (fun _=>rfl) (fun s h=>by have h':s.length≤reachBytes:=h;rw [reach_is] at h';simp only [id];omega)
theorem o_strs:OpenT Tryz.prog CC.N 22 (fun o:Nl (List UInt8)=>[nlv srow 1 o]) (fun o=>o.l.length≤8796093022208∧∀x∈o.l,x.length < 4611686018427387904):=(OpenT.slice (n:=1) Tryz.underlying22 (by kernel_rfl) (by decide) (fun _=>rfl) o_str).map id (fun _=>rfl) (fun o h=>⟨by have:=h.1;rw [b_str,reach_is] at this;simp only [id];omega,h.2⟩)
theorem o_bool:OpenT Tryz.prog CC.N 4 (fun b:Bool=>[.bool b]) (fun _=>True):=OpenT.bool Tryz.underlying4
def ctF (p:List UInt8×(Nl (List UInt8)×(Int×(Nat×Unit)))):List V:=[.str p.1,nlv srow 1 p.2.1,.int .i64 p.2.2.1,.int .u8 p.2.2.2.1]
theorem o_contest:OpenT Tryz.prog CC.N 24 ctF (fun p=>(p.1.length < 4611686018427387904∧p.2.1.l.length≤8796093022208∧∀x∈p.2.1.l,x.length < 4611686018427387904)∧p.2.2.2.1 < 256):=
 OpenT.map (OpenT.struct Tryz.underlying24 (fun _=>by kernel_rfl) (OpenFs.cons (n:=1) rfl (by kernel_rfl) (fun _=>rfl) o_str (OpenFs.cons (n:=1) rfl (by kernel_rfl) (fun _=>rfl) o_strs (OpenFs.cons (n:=1) rfl (by kernel_rfl) (fun _=>rfl) o_int (OpenFs.cons (n:=1) rfl (by kernel_rfl) (fun _=>rfl) o_u8n OpenFs.nil)))))
  id (fun _=>rfl) (fun p h=>⟨⟨h.1,h.2.1.1,h.2.1.2⟩,h.2.2.2.1⟩)
def poF (p:Nat×(Nat×(Int×Unit))):List V:=[.int .u8 p.1,.int .u8 p.2.1,.int .i64 p.2.2.1]
theorem o_policy:OpenT Tryz.prog CC.N 26 poF (fun p=>p.1 < 256∧p.2.1 < 256):=
 OpenT.map (OpenT.struct Tryz.underlying26 (fun _=>by kernel_rfl) (OpenFs.cons (n:=1) rfl (by kernel_rfl) (fun _=>rfl) o_u8n (OpenFs.cons (n:=1) rfl (by kernel_rfl) (fun _=>rfl) o_u8n (OpenFs.cons (n:=1) rfl (by kernel_rfl) (fun _=>rfl) o_int OpenFs.nil))))
  id (fun _=>rfl) (fun p h=>⟨h.1,h.2.1⟩)
def rtF (p:Bool×(Nl Nat×(Nl Nat×Unit))):List V:=[.bool p.1,nlv nrow 1 p.2.1,nlv nrow 1 p.2.2.1]
theorem o_ratio:OpenT Tryz.prog CC.N 29 rtF (fun p=>(p.2.1.l.length≤35184372087808∧limOk p.2.1.l)∧(p.2.2.1.l.length≤35184372087808∧limOk p.2.2.1.l)):=
 OpenT.map (OpenT.struct Tryz.underlying29 (fun _=>by kernel_rfl) (OpenFs.cons (n:=1) rfl (by kernel_rfl) (fun _=>rfl) o_bool (OpenFs.cons (n:=1) rfl (by kernel_rfl) (fun _=>rfl) o_u32s (OpenFs.cons (n:=1) rfl (by kernel_rfl) (fun _=>rfl) o_u32s OpenFs.nil))))
  id (fun _=>rfl) (fun p h=>⟨h.2.1,h.2.2.1⟩)
def okTn (t:Tm):Prop:=okTm t∧t.name.length < 4611686018427387904∧∀x∈t.cands.l,x.length < 4611686018427387904
theorem o_terms:OpenT Tryz.prog CC.N 32 tmC okTn:=
 OpenT.map (OpenT.struct Tryz.underlying32 (fun _=>by kernel_rfl) (OpenFs.cons (n:=4) rfl (by kernel_rfl) (fun _=>rfl) o_contest (OpenFs.cons (n:=3) rfl (by kernel_rfl) (fun _=>rfl) o_policy (OpenFs.cons (n:=3) rfl (by kernel_rfl) (fun _=>rfl) o_ratio (OpenFs.cons (n:=3) rfl (by kernel_rfl) (fun _=>rfl) o_ratio (OpenFs.cons (n:=1) rfl (by kernel_rfl) (fun _=>rfl) o_ints OpenFs.nil))))))
  (fun p=>⟨p.1.1,p.1.2.1,p.1.2.2.1,p.1.2.2.2.1,p.2.1.1,p.2.1.2.1,p.2.1.2.2.1,p.2.2.1.1,p.2.2.1.2.1,p.2.2.1.2.2.1,p.2.2.2.1.1,p.2.2.2.1.2.1,p.2.2.2.1.2.2.1,p.2.2.2.2.1⟩) (fun _=>rfl)
  (fun p h=>⟨⟨h.1.2,h.2.1.1,h.2.1.2,h.1.1.2.1,Nat.le_trans h.2.2.1.1.1 (by decide),Nat.le_trans h.2.2.1.2.1 (by decide),Nat.le_trans h.2.2.2.1.1.1 (by decide),Nat.le_trans h.2.2.2.1.2.1 (by decide),Nat.le_trans h.2.2.2.2.1 (by decide),⟨h.2.2.1.1.2,h.2.2.1.2.2⟩,⟨h.2.2.2.1.1.2,h.2.2.2.1.2.2⟩⟩,h.1.1.1,h.1.1.2.2⟩)
theorem o_byl:OpenT Tryz.prog CC.N 53 (fun o:Nl UInt8=>[nlv byrow 1 o]) (fun o=>o.l.length≤140737488355328):=(OpenT.slice (n:=1) Tryz.underlying53 (by kernel_rfl) (by decide) (fun _=>rfl) o_u8b).map id (fun _=>rfl) (fun o h=>by have:=h.1;rw [b_u8,reach_is] at this;simp only [id];omega)
theorem o_ballot:OpenT Tryz.prog CC.N 130 balrow (fun p=>okI8 p.2):=
 OpenT.map (OpenT.struct Tryz.underlying130 (fun _=>by kernel_rfl) (OpenFs.cons (n:=1) rfl (by kernel_rfl) (fun _=>rfl) o_u8i (OpenFs.cons (n:=1) rfl (by kernel_rfl) (fun _=>rfl) o_ints OpenFs.nil))) (fun p=>(p.1,p.2.1)) (fun _=>rfl) (fun p h=>Nat.le_trans h.2.1 (by decide))
theorem o_ballots:OpenT Tryz.prog CC.N 64 (fun o:Nl (Int×Nl Int)=>[nlv balrow 2 o]) (fun o=>o.l.length≤4398046510976∧∀p∈o.l,okI8 p.2):=(OpenT.slice (n:=2) Tryz.underlying64 (by kernel_rfl) (by decide) (fun _=>rfl) o_ballot).map id (fun _=>rfl) (fun o h=>⟨by have:=h.1;rw [b_bal,reach_is] at this;simp only [id];omega,h.2⟩)
theorem o_batch:OpenT Tryz.prog CC.N 135 hbrow (okHb):=
 OpenT.map (OpenT.struct Tryz.underlying135 (fun _=>by kernel_rfl) (OpenFs.cons (n:=1) rfl (by kernel_rfl) (fun _=>rfl) o_str (OpenFs.cons (n:=1) rfl (by kernel_rfl) (fun _=>rfl) o_ballots OpenFs.nil))) (fun p=>⟨p.1,p.2.1⟩) (fun _=>rfl) (fun p h=>⟨h.1,h.2.1.1,h.2.1.2⟩)
theorem o_batches:OpenT Tryz.prog CC.N 38 (fun o:Nl Hb=>[nlv hbrow 2 o]) (fun o=>o.l.length≤3518437208780∧∀b∈o.l,okHb b):=(OpenT.slice (n:=2) Tryz.underlying38 (by kernel_rfl) (by decide) (fun _=>rfl) o_batch).map id (fun _=>rfl) (fun o h=>⟨by have:=h.1;rw [b_bat,reach_is] at this;simp only [id];omega,h.2⟩)
theorem o_voter:OpenT Tryz.prog CC.N 101 vtrow (fun _=>True):=
 OpenT.map (OpenT.struct Tryz.underlying101 (fun _=>by kernel_rfl) (OpenFs.cons (n:=1) rfl (by kernel_rfl) (fun _=>rfl) o_str (OpenFs.cons (n:=1) rfl (by kernel_rfl) (fun _=>rfl) o_int (OpenFs.cons (n:=1) rfl (by kernel_rfl) (fun _=>rfl) o_u8i OpenFs.nil)))) (fun p=>⟨p.1,p.2.1,p.2.2.1⟩) (fun _=>rfl) (fun p h=>trivial)
theorem o_voters:OpenT Tryz.prog CC.N 37 (fun o:Nl Vt=>[nlv vtrow 3 o]) (fun o=>o.l.length≤4398046510976):=(OpenT.slice (n:=3) Tryz.underlying37 (by kernel_rfl) (by decide) (fun _=>rfl) o_voter).map id (fun _=>rfl) (fun o h=>by have:=h.1;rw [b_vot,reach_is] at this;simp only [id];omega)
theorem o_rq:OpenT Tryz.prog CC.N 29 rqrow (okRq):=
 OpenT.map (OpenT.struct Tryz.underlying29 (fun _=>by kernel_rfl) (OpenFs.cons (n:=1) rfl (by kernel_rfl) (fun _=>rfl) o_bool (OpenFs.cons (n:=1) rfl (by kernel_rfl) (fun _=>rfl) o_u32s (OpenFs.cons (n:=1) rfl (by kernel_rfl) (fun _=>rfl) o_u32s OpenFs.nil)))) (fun p=>⟨p.1,p.2.1,p.2.2.1⟩) (fun _=>rfl) (fun p h=>⟨Nat.le_trans h.2.1.1 (by decide),Nat.le_trans h.2.2.1.1 (by decide)⟩)
theorem o_rqs:OpenT Tryz.prog CC.N 75 (fun o:Nl Rq=>[nlv rqrow 3 o]) (fun o=>o.l.length≤2513169434843∧∀r∈o.l,okRq r):=(OpenT.slice (n:=3) Tryz.underlying75 (by kernel_rfl) (by decide) (fun _=>rfl) o_rq).map id (fun _=>rfl) (fun o h=>⟨by have:=h.1;rw [b_rat,reach_is] at this;simp only [id];omega,h.2⟩)
theorem o_dq:OpenT Tryz.prog CC.N 77 dqrow (okDq):=
 OpenT.map (OpenT.struct Tryz.underlying77 (fun _=>by kernel_rfl) (OpenFs.cons (n:=1) rfl (by kernel_rfl) (fun _=>rfl) o_rqs (OpenFs.cons (n:=3) rfl (by kernel_rfl) (fun _=>rfl) o_rq (OpenFs.cons (n:=1) rfl (by kernel_rfl) (fun _=>rfl) o_ints (OpenFs.cons (n:=1) rfl (by kernel_rfl) (fun _=>rfl) o_ints OpenFs.nil))))) (fun p=>⟨p.1,p.2.1,p.2.2.1,p.2.2.2.1⟩) (fun _=>rfl) (fun p h=>⟨h.1.1,h.1.2,h.2.1,Nat.le_trans h.2.2.1 (by decide),Nat.le_trans h.2.2.2.1 (by decide)⟩)
theorem o_dqs:OpenT Tryz.prog CC.N 33 (fun o:Nl Dq=>[nlv dqrow 6 o]) (fun o=>o.l.length≤1099511627744∧∀d∈o.l,okDq d):=(OpenT.slice (n:=6) Tryz.underlying33 (by kernel_rfl) (by decide) (fun _=>rfl) o_dq).map id (fun _=>rfl) (fun o h=>⟨by have:=h.1;rw [b_rnd,reach_is] at this;simp only [id];omega,h.2⟩)
theorem o_tq:OpenT Tryz.prog CC.N 79 tqrow (okTq):=
 OpenT.map (OpenT.struct Tryz.underlying79 (fun _=>by kernel_rfl) (OpenFs.cons (n:=1) rfl (by kernel_rfl) (fun _=>rfl) o_ints (OpenFs.cons (n:=1) rfl (by kernel_rfl) (fun _=>rfl) o_int OpenFs.nil))) (fun p=>⟨p.1,p.2.1⟩) (fun _=>rfl) (fun p h=>Nat.le_trans h.1 (by decide))
theorem o_tqs:OpenT Tryz.prog CC.N 34 (fun o:Nl Tq=>[nlv tqrow 2 o]) (fun o=>o.l.length≤4398046510976∧∀t∈o.l,okTq t):=(OpenT.slice (n:=2) Tryz.underlying34 (by kernel_rfl) (by decide) (fun _=>rfl) o_tq).map id (fun _=>rfl) (fun o h=>⟨by have:=h.1;rw [b_tie,reach_is] at this;simp only [id];omega,h.2⟩)
theorem o_outcome:OpenT Tryz.prog CC.N 36 oqC (okOq):=
 OpenT.map (OpenT.struct Tryz.underlying36 (fun _=>by kernel_rfl) (OpenFs.cons (n:=1) rfl (by kernel_rfl) (fun _=>rfl) o_ints (OpenFs.cons (n:=1) rfl (by kernel_rfl) (fun _=>rfl) o_dqs (OpenFs.cons (n:=1) rfl (by kernel_rfl) (fun _=>rfl) o_tqs OpenFs.nil)))) (fun p=>⟨p.1,p.2.1,p.2.2.1⟩) (fun _=>rfl) (fun p h=>⟨Nat.le_trans h.1 (by decide),h.2.1,h.2.2.1.1,h.2.2.1.2⟩)
theorem o_entry:OpenT Tryz.prog CC.N 83 enrow (okEn):=
 OpenT.map (OpenT.struct Tryz.underlying83 (fun _=>by kernel_rfl) (OpenFs.cons (n:=1) rfl (by kernel_rfl) (fun _=>rfl) o_u8i (OpenFs.cons (n:=1) rfl (by kernel_rfl) (fun _=>rfl) o_byl OpenFs.nil))) (fun p=>(p.1,p.2.1)) (fun _=>rfl) (fun p h=>h.2.1)
theorem o_entries:OpenT Tryz.prog CC.N 40 (fun o:Nl (Int×Nl UInt8)=>[nlv enrow 2 o]) (fun o=>o.l.length≤4398046510976∧∀e∈o.l,okEn e):=(OpenT.slice (n:=2) Tryz.underlying40 (by kernel_rfl) (by decide) (fun _=>rfl) o_entry).map id (fun _=>rfl) (fun o h=>⟨by have:=h.1;rw [b_ent,reach_is] at this;simp only [id];omega,h.2⟩)
theorem o_board:OpenT Tryz.prog CC.N 42 (fun o:Nl (Int×Nl UInt8)=>[nlv enrow 2 o]) (fun o=>o.l.length≤4398046510976∧∀e∈o.l,okEn e):=
 OpenT.map (OpenT.struct Tryz.underlying42 (fun _=>by kernel_rfl) (OpenFs.cons (n:=1) rfl (by kernel_rfl) (fun _=>rfl) o_entries OpenFs.nil)) (fun p=>p.1) (fun _=>rfl) (fun p h=>h.1)
theorem o_seed:OpenT Tryz.prog CC.N 39 seedC (fun _=>True):=OpenT.seed Tryz.underlying39 Tryz.underlying5 (by kernel_rfl) (by kernel_rfl)
theorem o_election:OpenT Tryz.prog CC.N 44 elC (okEl):=
 OpenT.map (OpenT.struct Tryz.underlying44 (fun _=>by kernel_rfl) (OpenFs.cons (n:=14) rfl (by kernel_rfl) (fun _=>rfl) o_terms (OpenFs.cons (n:=1) rfl (by kernel_rfl) (fun _=>rfl) o_u8i (OpenFs.cons (n:=1) rfl (by kernel_rfl) (fun _=>rfl) o_voters (OpenFs.cons (n:=1) rfl (by kernel_rfl) (fun _=>rfl) o_batches (OpenFs.cons (n:=32) rfl (by kernel_rfl) (fun _=>rfl) o_seed (OpenFs.cons (n:=1) rfl (by kernel_rfl) (fun _=>rfl) o_ints (OpenFs.cons (n:=3) rfl (by kernel_rfl) (fun _=>rfl) o_outcome (OpenFs.cons (n:=1) rfl (by kernel_rfl) (fun _=>rfl) o_board OpenFs.nil))))))))) (fun p=>⟨p.1,p.2.1,p.2.2.1,p.2.2.2.1,p.2.2.2.2.1,p.2.2.2.2.2.1,p.2.2.2.2.2.2.1,p.2.2.2.2.2.2.2.1⟩) (fun _=>rfl) (fun p h=>⟨h.1.1,h.2.2.1,h.2.2.2.1,Nat.le_trans h.2.2.2.2.2.1 (by decide),h.2.2.2.2.2.2.1,h.2.2.2.2.2.2.2.1⟩)
theorem begins_all (t:Tm) (o:Oq) (x y:El) (ht:okTn t) (ho:okOq o) (hx:okEl x) (hy:okEl y):VFn LL 3 [.agg (tmC t),.agg (oqC o),.agg (elC x),.agg (elC y)] (.bool true):=begins_v rfl ht.1 ht.2.1 ht.2.2 ho hx hy
end Go.Proofs.YtigdhgbkgfagiaaGreat
