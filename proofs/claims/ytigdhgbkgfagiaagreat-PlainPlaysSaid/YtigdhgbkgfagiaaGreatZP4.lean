/- AL: single operations of regions that draw their order, at values that are not known whole. · Sheets: a column's marked boxes, handed out, walked. · Sheets: marks, by the program, walked. -/
import Derived.Test.YtigdhgbkgfagiaaGreatZM1
import Derived.Test.YtigdhgbkgfagiaaGreatZM2
import Derived.Test.YtigdhgbkgfagiaaGreatZP3
set_option linter.unusedVariables false
namespace Go.Proofs.YtigdhgbkgfagiaaGreat
section
variable {L:Lib} {l:List AI} {rs:List Rec} {ms:List Nat} {K:Env→Heap→Prop} {E:Env} {H:Heap} {d:Option Nat} {anc:List Nat} {α:Type} {f:α→List V} {n:Nat} {o:Nl α}
theorem dops_ldI {p:AOpd} {q:Nat} {lf:Bool} {rows:List (List V)} {j t:Nat} {row:List V} {v:V} (hp:opval L.G E.get p=some (.iptr n rows j t)) (hr:rows[j]?=some row) (hv:takeCells row t q lf=some v)
    (hi:indB (ancM ms anc) { dst:=d,looks:=AI.looks ⟨d,.load q lf p,none,anc⟩,v:=some v,need:=[],eff:=[],slot:=H.length,k:=0 } 0 rs=true)
    (k:dopsP L l (rs++[{ dst:=d,looks:=AI.looks ⟨d,.load q lf p,none,anc⟩,v:=some v,need:=[],eff:=[],slot:=H.length,k:=0 }]) (ms++[ancM ms anc]) K (E.put d v) H):dopsP L (⟨d,.load q lf p,none,anc⟩::l) rs ms K E H:=
 dops_op (e:={ v:=v }) rfl rfl (by
  show ((opval L.G E.get p).bind _)=_
  rw [hp]
  show ((rows[j]?).bind fun row=>(takeCells row t q lf).bind fun v=>some ({ v:=v }:Eff))=_
  rw [hr]
  show ((takeCells row t q lf).bind fun v=>some ({ v:=v }:Eff))=_
  rw [hv];rfl) rfl hi (by simpa [Heap.app,Heap.upds,Eff.all] using k)
theorem dops_mks {x y:AOpd} {size bts m:Nat} {zero:List V} (hx:opval L.G E.get x=some (.int .i64 (m:Nat))) (hy:opval L.G E.get y=some (.int .i64 (m:Nat))) (h1:m*bts≤140737488355328) (h2:m < 9223372036854775808) (h3:zero.length=size)
    (hi:indB (ancM ms anc) { dst:=d,looks:=AI.looks ⟨d,.mkslice size bts zero x y,none,anc⟩,v:=some (.ref H.length size 0 m (some m)),need:=[],eff:=[(H.length,some (.arr size (List.replicate m zero)))],slot:=H.length,k:=1 } 0 rs=true)
    (k:dopsP L l (rs++[{ dst:=d,looks:=AI.looks ⟨d,.mkslice size bts zero x y,none,anc⟩,v:=some (.ref H.length size 0 m (some m)),need:=[],eff:=[(H.length,some (.arr size (List.replicate m zero)))],slot:=H.length,k:=1 }]) (ms++[ancM ms anc]) K (E.put d (.ref H.length size 0 m (some m))) (H++[some (.arr size (List.replicate m zero))])):dopsP L (⟨d,.mkslice size bts zero x y,none,anc⟩::l) rs ms K E H:=
 dops_op (e:={ v:=.ref H.length size 0 m (some m),new:=[.arr size (List.replicate m zero)] }) rfl rfl (by
  show (((opval L.G E.get x).bind V.nat?).bind _)=_
  rw [hx]
  show ((V.nat? (.int .i64 (m:Nat))).bind _)=_
  rw [nat?_ofNat]
  show (((opval L.G E.get y).bind V.nat?).bind _)=_
  rw [hy]
  show ((V.nat? (.int .i64 (m:Nat))).bind _)=_
  rw [nat?_ofNat]
  show (if _ then _ else _)=_
  rw [if_pos ⟨Nat.le_refl _,h1,h2,h3⟩]) rfl (by simpa [Eff.all] using hi) (by simpa [Heap.app,Heap.upds,Eff.all] using k)
end
end Go.Proofs.YtigdhgbkgfagiaaGreat
set_option maxRecDepth 100000
set_option maxHeartbeats 4000000
set_option linter.unusedSimpArgs false
namespace Go.Proofs.YtigdhgbkgfagiaaGreat
section
variable {L:Lib} {i:AI} {l:List AI} {rs:List Rec} {ms:List Nat} {K:Env→Heap→Prop} {E:Env} {H:Heap} {d:Option Nat} {anc:List Nat}
theorem dops_iaT {α:Type} {f:α→List V} {n:Nat} {t:List α} {c:Option Nat} {x y:AOpd} {j:Nat} (hx:opval L.G E.get x=some (tl f n t c)) (hy:opval L.G E.get y=some (.int .i64 (j:Nat))) (hj:j < t.length)
    (hi:indB (ancM ms anc) { dst:=d,looks:=AI.looks ⟨d,.ia n x y,none,anc⟩,v:=some (.iptr n (t.map f) j 0),need:=[],eff:=[],slot:=H.length,k:=0 } 0 rs=true)
    (k:dopsP L l (rs++[{ dst:=d,looks:=AI.looks ⟨d,.ia n x y,none,anc⟩,v:=some (.iptr n (t.map f) j 0),need:=[],eff:=[],slot:=H.length,k:=0 }]) (ms++[ancM ms anc]) K (E.put d (.iptr n (t.map f) j 0)) H):dopsP L (⟨d,.ia n x y,none,anc⟩::l) rs ms K E H:=
 dops_op (e:={ v:=.iptr n (t.map f) j 0 }) rfl rfl (by
  show ((opval L.G E.get x).bind _)=_
  rw [hx]
  show (((opval L.G E.get y).bind V.nat?).bind _)=_
  rw [hy]
  show ((V.nat? (.int .i64 (j:Nat))).bind _)=_
  rw [nat?_ofNat]
  simp [tl,hj]) rfl hi (by simpa [Heap.app,Heap.upds,Eff.all] using k)
theorem dops_yl {y:Nat} {c:ACallee} {args:List AOpd} {vs:List V} {h':Heap} (hg:i.goes E.get=some true) (hop:i.op=.call c args) (hv:callee L.G E.get c args=some (.yl y,vs)) (hy:((Tgt.yl y).sub ((List.range H.length).map some))=some (.yl y)) (hn:nodupO ((List.range H.length).map some)=true) (hlt:((List.range H.length).all fun a=>Nat.blt a H.length)=true)
    (hvs:vs.map (V.ren (sgOf H ((List.range H.length).map some) []))=vs) (hH:H.sh ((List.range H.length).map some) []=H) (hf:AFn L (.yl y) vs H (fun r h=>r=.bool true∧h=h')) (hlen:(List.range H.length).length≤h'.length) (hb:H.back (List.range H.length) h'=h')
    (hi:∀r,indB (ancM ms i.anc) r 0 rs=true)
    (k:∀r,dopsP L l (rs++[r]) (ms++[ancM ms i.anc]) K (E.put i.dst (.bool true)) h'):dopsP L (i::l) rs ms K E H:=by
 unfold dopsP dstepP
 rw [hg]
 dsimp only
 rw [hop]
 dsimp only
 rw [hv]
 show FnD L (.yl y) vs H _
 refine ⟨List.range H.length,[],[],.bool true,h',.yl y,hy,hn,hlt,?_,rfl,hlen,fun i hi=>by simp at hi,hi _,?_⟩
 ·rw [hvs,hH]
  exact hf
 ·rw [hb]
  exact k _
end
def rdC (kind:Int) (m:V) (over:Int) (d:V) (M:List Bool) (c:Option Nat) (n w most:Nat) (skips:Int):List V:=[.int .u8 kind,m,.int .i64 over,d,tl brow 1 M c,.int .i64 n,.int .i64 w,.int .i64 most,.int .i64 skips]
def colT (r:List Int):Heap:=if r=[] then [] else [some (.arr 1 (r.map mrow))]
theorem colT_nil:colT []=[]:=rfl
theorem colT_snoc {r:List Int} {x:Int}:colT (r++[x])=[some (.arr 1 ((r++[x]).map mrow))]:=if_neg (by simp)
def colH (rd:List V) (col:Int) (LP:Blk) (r:List Int):Heap:=some (.arr 9 [rd])::some (.arr 1 [[.ptr 0 9 0 0]])::some (.arr 1 [[.int .i64 col]])::some (.arr 1 [[accV 5 1 r]])::some LP::colT r
def colL (M:List Bool) (w col:Nat):Nat→List Int
 | 0=>[]
 | j+1=>colL M w col j++(if M[j*w+col]?.getD false then [(j:Int)] else [])
theorem colL_len {M:List Bool} {w col:Nat}:∀j,(colL M w col j).length≤j
 | 0=>Nat.le_refl 0
 | j+1=>by
  unfold colL
  rw [List.length_append]
  have:=colL_len (M:=M) (w:=w) (col:=col) j
  split <;> simp <;> omega
theorem blk_ren {rd:List V} (h:rd.all V.closed=true) {n:Nat} {σ:Nat→Sg}:Blk.ren σ (.arr n [rd])=.arr n [rd]:=by
 show Blk.arr n [rd.map (V.ren σ)]=_
 rw [ren_row h]
theorem sg5 {H:Heap}:∀a,a < 5→sgOf H ((List.range 5).map some) [] a=.to a
 | 0,_=>rfl
 | 1,_=>rfl
 | 2,_=>rfl
 | 3,_=>rfl
 | 4,_=>rfl
 | n+5,h=>absurd h (by omega)
theorem sg6 {H:Heap}:∀a,a < 5→sgOf H ((List.range 6).map some) [] a=.to a
 | 0,_=>rfl
 | 1,_=>rfl
 | 2,_=>rfl
 | 3,_=>rfl
 | 4,_=>rfl
 | n+5,h=>absurd h (by omega)
theorem out5:∀a,a < 5→outσ 5 (List.range 5) a=.to a
 | 0,_=>rfl
 | 1,_=>rfl
 | 2,_=>rfl
 | 3,_=>rfl
 | 4,_=>rfl
 | n+5,h=>absurd h (by omega)
theorem out6:∀a,a < 5→outσ 6 (List.range 6) a=.to a
 | 0,_=>rfl
 | 1,_=>rfl
 | 2,_=>rfl
 | 3,_=>rfl
 | 4,_=>rfl
 | n+5,h=>absurd h (by omega)
theorem back5 {A0 A1 A2 A3 A4 B0 B1 B2 B3 B4 B5 B6:Option Blk}:Heap.back [A0,A1,A2,A3,A4] (List.range 5) [B0,B1,B2,B3,B4,B5,B6]=[B0,B1,B2,B3,B4,B5,B6].map (Option.map (Blk.ren (outσ 5 (List.range 5)))):=rfl
theorem back6 {A0 A1 A2 A3 A4 A5 B0 B1 B2 B3 B4 B5 B6 B7:Option Blk}:Heap.back [A0,A1,A2,A3,A4,A5] (List.range 6) [B0,B1,B2,B3,B4,B5,B6,B7]=[B0,B1,B2,B3,B4,B5,B6,B7].map (Option.map (Blk.ren (outσ 6 (List.range 6)))):=rfl
theorem mp_c {F:Option Blk→Option Blk} {o b:Option Blk} {src bs:List (Option Blk)} (h1:F o=b) (h2:src.map F=bs):List.map F (o::src)=b::bs:=by rw [List.map_cons,h1,h2]
theorem mp_n {F:Option Blk→Option Blk}:List.map F []=[]:=rfl
theorem mp_l {σ:Nat→Sg} {l:List Int}:Option.map (Blk.ren σ) (some (.arr 1 (l.map mrow)))=some (.arr 1 (l.map mrow)):=by rw [Option.map_some,ren_tl closed_mrow]
theorem sh05 {H:Heap}:∀a,a < 5→sgOf H [some 0,some 1,some 2,some 3,some 4,some 6] [] a=.to a
 | 0,_=>rfl
 | 1,_=>rfl
 | 2,_=>rfl
 | 3,_=>rfl
 | 4,_=>rfl
 | n+5,h=>absurd h (by omega)
theorem sh15 {H:Heap}:∀a,a < 5→sgOf H [some 0,some 1,some 2,some 3,some 4,some 7] [] a=.to a
 | 0,_=>rfl
 | 1,_=>rfl
 | 2,_=>rfl
 | 3,_=>rfl
 | 4,_=>rfl
 | n+5,h=>absurd h (by omega)
theorem AFn.cast {L:Lib} {k:Tgt} {vs:List V} {H H':Heap} {P:V→Heap→Prop} (h:AFn L k vs H P) (e:H=H'):AFn L k vs H' P:=e ▸ h
structure RoundOk (L:Lib) (rd:List V) (col:Int) (LP:Blk):Prop where
 h0:∀x:Int,AFn L (.yl 4) [.int .i64 x] (colH rd col LP []) (fun v H'=>v=.bool true∧H'=[some (.arr 9 [rd]),some (.arr 1 [[.ptr 0 9 0 0]]),some (.arr 1 [[.int .i64 col]]),some (.arr 1 [[.ref 6 1 0 1 none]]),some LP,some (.arr 1 [[.int .i64 x]]),some (.arr 1 [[.int .i64 x]])])
 h1:∀(r:List Int) (x:Int),r≠[]→r.length≤1000→AFn L (.yl 4) [.int .i64 x] (colH rd col LP r) (fun v H'=>v=.bool true∧H'=[some (.arr 9 [rd]),some (.arr 1 [[.ptr 0 9 0 0]]),some (.arr 1 [[.int .i64 col]]),some (.arr 1 [[.ref 7 1 0 (r.length+1) none]]),some LP,none,some (.arr 1 [[.int .i64 x]]),some (.arr 1 ((r++[x]).map mrow))])
 ren:∀σ:Nat→Sg,(∀a,a < 5→σ a=.to a)→LP.ren σ=LP
variable {L:Lib} (hL:L.T=tab.get)
include hL
theorem rowIt_a {kind:Int} {m:V} {over:Int} {d:V} {M:List Bool} {c:Option Nat} {n w most:Nat} {skips:Int} {col:Nat} {LP:Blk} (hm:m.closed=true) (hd:d.closed=true) (hn:n≤1000) (hw:w≤1000) (hc:col < w) (hM:M.length=n*w)
    (hR:RoundOk L (rdC kind m over d M c n w most skips) col LP) :
    AFn L (.fn 222) [.yld 4,.ptr 1 1 0 0,.ptr 2 1 0 0] (colH (rdC kind m over d M c n w most skips) col LP []) (fun r H'=>r=.tup []∧H'=colH (rdC kind m over d M c n w most skips) col LP (colL M w col n)):=by
 have hrd:(rdC kind m over d M c n w most skips).all V.closed=true:=by
  simp [rdC,V.closed,tl,hm,hd]
 refine AFn.of_body (F:=T222.1) (by rw [hL];rfl) rfl ?_
 unfold colH rdC colT
 refine Wn0 ?_
 refine wCntH rfl 9 n (fun _=>[]) (fun j=>colH (rdC kind m over d M c n w most skips) col LP (colL M w col j)) (fun _=>True) rfl rfl trivial ?_ ?_
 ·intro j hj _
  have hx:j*w+col < M.length:=by
   rw [hM]
   have:(j+1)*w≤n*w:=Nat.mul_le_mul_right _ hj
   rw [Nat.succ_mul] at this;omega
  have hxb:j*w+col < 1000000:=by
   rw [hM] at hx
   exact Nat.lt_of_lt_of_le hx (Nat.mul_le_mul hn hw)
  have hjw:j*w < 1000000:=by omega
  have w1:IntKind.i64.wrap ((j:Int)*(w:Int))=((j*w:Nat):Int):=by rw [←Int.natCast_mul];exact wrap_nat (by omega)
  have w2:IntKind.i64.wrap (((j*w:Nat):Int)+(col:Int))=((j*w+col:Nat):Int):=by rw [←Int.natCast_add];exact wrap_nat (by omega)
  have hw3:=wrap_succ (show j < 9223372036854775807 by omega)
  obtain ⟨b,hb⟩:∃b,M[j*w+col]?=some b:=⟨_,List.getElem?_eq_getElem hx⟩
  have hcl:colL M w col (j+1)=colL M w col j++(if b then [(j:Int)] else []):=by
   show colL M w col j++_=_
   rw [hb];rfl
  have hlen:=colL_len (M:=M) (w:=w) (col:=col) j
  rw [hcl]
  generalize colL M w col j=r at *
  generalize hX:j*w+col=X at *
  generalize hY:j*w=Y at *
  cases b with
  | false=>
   rw [if_neg (by simp),List.append_nil]
   unfold colH rdC colT
   refine Wf0 (Q5 (show (j:Int) < n by omega) w1 w2 (iT hx) (Q3 hb @brow_eq hw3)) ?_
   exact qR_n rfl rfl trivial
  | true=>
   rw [if_pos rfl]
   by_cases hr:r=[]
   ·subst hr
    (repeat' (first|refine Z0 ?_|refine Z1 ?_|simp only [seval,push_cast,↓reduceIte,↓bP_some,↓aP_true,reduceCtorEq,show (j:Int) < n by omega]))
    refine wDrawD rfl ?_
    unfold colH rdC colT
    refine dops_op rfl rfl rfl rfl (by kernel_rfl) ?_;refine dops_op rfl rfl rfl rfl (by kernel_rfl) ?_;refine dops_op rfl rfl rfl rfl (by kernel_rfl) ?_;refine dops_op rfl rfl rfl rfl (by kernel_rfl) ?_;refine dops_op rfl rfl rfl rfl (by kernel_rfl) ?_
    simp only [seval,push_cast,↓reduceIte,↓bP_some,↓aP_true,reduceCtorEq,happ_eq,upds_nil,upds_cons,List.map_nil,List.append_nil]
    refine dops_op rfl rfl rfl rfl (by kernel_rfl) ?_;refine dops_op rfl rfl rfl rfl (by kernel_rfl) ?_;refine dops_op rfl rfl rfl rfl (by kernel_rfl) ?_;refine dops_op rfl rfl rfl rfl (by kernel_rfl) ?_;refine dops_op rfl rfl rfl rfl (by kernel_rfl) ?_
    simp only [seval,push_cast,↓reduceIte,↓bP_some,↓aP_true,reduceCtorEq,happ_eq,upds_nil,upds_cons,List.map_nil,List.append_nil,w1]
    refine dops_op rfl rfl rfl rfl (by kernel_rfl) ?_;refine dops_op rfl rfl rfl rfl (by kernel_rfl) ?_
    simp only [seval,push_cast,↓reduceIte,↓bP_some,↓aP_true,reduceCtorEq,happ_eq,upds_nil,upds_cons,List.map_nil,List.append_nil,w2]
    refine dops_iaT (f:=brow) (t:=M) (c:=c) (j:=X) rfl rfl hx (by kernel_rfl) ?_
    refine dops_ldI (v:=.bool true) rfl (show (M.map brow)[X]?=some (brow true) by rw [List.getElem?_map,hb];rfl) rfl (by kernel_rfl) ?_
    refine dops_op rfl rfl rfl rfl (by kernel_rfl) ?_;refine dops_op rfl rfl rfl rfl (by kernel_rfl) ?_;refine dops_op rfl rfl rfl rfl (by kernel_rfl) ?_
    simp only [seval,push_cast,↓reduceIte,↓bP_some,↓aP_true,reduceCtorEq,happ_eq,upds_nil,upds_cons,List.map_nil,List.append_nil]
    refine dops_yl (y:=4) (c:=.dyn (.t 27)) rfl rfl rfl rfl rfl rfl rfl ?_ (hR.h0 (j:Int)) (show 5≤7 by decide) ?_ (fun r=>by kernel_rfl) ?_
    ·exact sh_c (congrArg some (blk_ren hrd)) (sh_c rfl (sh_c rfl (sh_c rfl (sh_c (congrArg some (hR.ren _ sg5)) sh_n))))
    ·refine back5.trans ?_
     exact mp_c (congrArg some (blk_ren hrd)) (mp_c rfl (mp_c rfl (mp_c rfl (mp_c (congrArg some (hR.ren _ out5)) (mp_c rfl (mp_c rfl mp_n))))))
    intro rec
    refine dops_op rfl rfl rfl rfl (by kernel_rfl) ?_;refine dops_op rfl rfl rfl rfl (by kernel_rfl) ?_
    refine dops_nil ?_
    refine Xf0 hw3 ?_
    refine qR_s [some 0,some 1,some 2,some 3,some 4,some 6] [] rfl rfl ?_ trivial
    exact sh_c (congrArg some (blk_ren hrd)) (sh_c rfl (sh_c rfl (sh_c rfl (sh_c (congrArg some (hR.ren _ sh05)) (sh_c rfl sh_n)))))
   ·(repeat' (first|refine Z0 ?_|refine Z1 ?_|simp only [seval,push_cast,↓reduceIte,↓bP_some,↓aP_true,reduceCtorEq,show (j:Int) < n by omega]))
    refine wDrawD rfl ?_
    unfold colH rdC colT
    rw [if_neg hr,accV_cons hr]
    refine dops_op rfl rfl rfl rfl (by kernel_rfl) ?_;refine dops_op rfl rfl rfl rfl (by kernel_rfl) ?_;refine dops_op rfl rfl rfl rfl (by kernel_rfl) ?_;refine dops_op rfl rfl rfl rfl (by kernel_rfl) ?_;refine dops_op rfl rfl rfl rfl (by kernel_rfl) ?_
    simp only [seval,push_cast,↓reduceIte,↓bP_some,↓aP_true,reduceCtorEq,happ_eq,upds_nil,upds_cons,List.map_nil,List.append_nil]
    refine dops_op rfl rfl rfl rfl (by kernel_rfl) ?_;refine dops_op rfl rfl rfl rfl (by kernel_rfl) ?_;refine dops_op rfl rfl rfl rfl (by kernel_rfl) ?_;refine dops_op rfl rfl rfl rfl (by kernel_rfl) ?_;refine dops_op rfl rfl rfl rfl (by kernel_rfl) ?_
    simp only [seval,push_cast,↓reduceIte,↓bP_some,↓aP_true,reduceCtorEq,happ_eq,upds_nil,upds_cons,List.map_nil,List.append_nil,w1]
    refine dops_op rfl rfl rfl rfl (by kernel_rfl) ?_;refine dops_op rfl rfl rfl rfl (by kernel_rfl) ?_
    simp only [seval,push_cast,↓reduceIte,↓bP_some,↓aP_true,reduceCtorEq,happ_eq,upds_nil,upds_cons,List.map_nil,List.append_nil,w2]
    refine dops_iaT (f:=brow) (t:=M) (c:=c) (j:=X) rfl rfl hx (by kernel_rfl) ?_
    refine dops_ldI (v:=.bool true) rfl (show (M.map brow)[X]?=some (brow true) by rw [List.getElem?_map,hb];rfl) rfl (by kernel_rfl) ?_
    refine dops_op rfl rfl rfl rfl (by kernel_rfl) ?_;refine dops_op rfl rfl rfl rfl (by kernel_rfl) ?_;refine dops_op rfl rfl rfl rfl (by kernel_rfl) ?_
    simp only [seval,push_cast,↓reduceIte,↓bP_some,↓aP_true,reduceCtorEq,happ_eq,upds_nil,upds_cons,List.map_nil,List.append_nil]
    refine dops_yl (y:=4) (c:=.dyn (.t 27)) rfl rfl rfl rfl rfl rfl rfl ?_ ((hR.h1 r (j:Int) hr (by omega)).cast ?_) (show 6≤8 by decide) ?_ (fun r=>by kernel_rfl) ?_
    ·exact sh_c (congrArg some (blk_ren hrd)) (sh_c rfl (sh_c rfl (sh_c rfl (sh_c (congrArg some (hR.ren _ sg6)) (sh_c (sh_b closed_mrow rfl) sh_n)))))
    ·unfold colH colT
     rw [if_neg hr,accV_cons hr];rfl
    ·refine back6.trans ?_
     exact mp_c (congrArg some (blk_ren hrd)) (mp_c rfl (mp_c rfl (mp_c rfl (mp_c (congrArg some (hR.ren _ out6)) (mp_c rfl (mp_c rfl (mp_c mp_l mp_n)))))))
    intro rec
    refine dops_op rfl rfl rfl rfl (by kernel_rfl) ?_;refine dops_op rfl rfl rfl rfl (by kernel_rfl) ?_
    refine dops_nil ?_
    refine Xf0 hw3 ?_
    refine qR_s [some 0,some 1,some 2,some 3,some 4,some 7] [] rfl rfl ?_ trivial
    rw [if_neg (show ¬r++[(j:Int)]=[] by simp),accV_snoc]
    exact sh_c (congrArg some (blk_ren hrd)) (sh_c rfl (sh_c rfl (sh_c rfl (sh_c (congrArg some (hR.ren _ sh15)) (sh_c (sh_b closed_mrow rfl) sh_n)))))
 ·intro _
  refine Wn0 ?_
  refine Eq.mpr (if_pos rfl) ?_
  exact FnQ.atN rfl ⟨rfl,rfl⟩
end Go.Proofs.YtigdhgbkgfagiaaGreat
namespace Go.Proofs.YtigdhgbkgfagiaaGreat
def colV (l:List Int):V:=if l=[] then nilV else .lst 1 (l.map mrow) none
theorem colV_tl (l:List Int):∃s c,colV l=tl mrow s l c∧(s=1∨l=[]):=by
 by_cases h:l=[]
 ·subst h;exact ⟨0,some 0,rfl,.inr rfl⟩
 ·exact ⟨1,none,if_neg h,.inl rfl⟩
theorem closed_colV (l:List Int):(colV l).closed=true:=by unfold colV;split <;> rfl
def asE:Env:=[(2,V.ptr 3 1 0 0),(6,V.fn 222 [] [V.ptr 1 1 0 0,V.ptr 2 1 0 0])]
noncomputable def asLP:Blk:=.loop T224.1.ntmps asE T224.1.body.r.l.r.l.ps T224.1.body.r.l.r.l.l T224.1.body.r.l.r.l.r
variable {L:Lib} (hL:L.T=tab.get)
include hL
omit hL in
theorem as_round {rd:List V} {col:Int}:RoundOk L rd col asLP where
 h0:=fun x=>by
  have hput:putArgs asE T224.1.body.r.l.r.l.ps [V.int IntKind.i64 x]=[(2,V.ptr 3 1 0 0),(6,V.fn 222 [] [V.ptr 1 1 0 0,V.ptr 2 1 0 0]),(7,V.int .i64 x)]:=rfl
  unfold asLP
  refine AFn.of_round rfl rfl rfl ?_
  unfold colH
  (repeat' (first|refine Z0 ?_|refine Z3 ?_|refine Z2 ?_|simp only [seval,push_cast,↓reduceIte,↓bP_some,↓aP_true,reduceCtorEq,accV_nil,hput,colT_nil]))
 h1:=fun r x hr hl=>by
  have hput:putArgs asE T224.1.body.r.l.r.l.ps [V.int IntKind.i64 x]=[(2,V.ptr 3 1 0 0),(6,V.fn 222 [] [V.ptr 1 1 0 0,V.ptr 2 1 0 0]),(7,V.int .i64 x)]:=rfl
  have hroom:(r.length+1)*8≤140737488355328:=by omega
  unfold asLP colH
  rw [show colT r=[some (.arr 1 (r.map mrow))] from if_neg hr]
  refine AFn.of_round rfl rfl rfl ?_
  (repeat' (first|refine Z0 ?_|refine Z3 ?_|refine Z2 ?_|simp only [seval,push_cast,↓reduceIte,↓bP_some,↓aP_true,reduceCtorEq,accV_cons hr,hroom,hput]))
 ren:=fun σ h=>by
  unfold asLP asE
  simp [Blk.ren,Env.sh,V.ren,V.rens,h 1 (by decide),h 2 (by decide),h 3 (by decide)]
theorem row_a {rd:List V} {col:Int}:AFn L (.fn 209) [.ptr 0 9 0 0,.int .i64 col] [some (.arr 9 [rd])] (fun r H'=>r=.fn 222 [] [.ptr 1 1 0 0,.ptr 2 1 0 0]∧H'=[some (.arr 9 [rd]),some (.arr 1 [[.ptr 0 9 0 0]]),some (.arr 1 [[.int .i64 col]])]):=by
 refine AFn.of_body (F:=T209.1) (by rw [hL];rfl) rfl ?_
 refine Wn0 ?_
 exact FnQ.at rfl ⟨rfl,rfl⟩
theorem asCol_a {kind:Int} {m:V} {over:Int} {d:V} {M:List Bool} {c:Option Nat} {n w most:Nat} {skips:Int} {col:Nat} (hm:m.closed=true) (hd:d.closed=true) (hn:n≤1000) (hw:w≤1000) (hc:col < w) (hM:M.length=n*w) :
    AFn L (.fn 224) [.lst 0 [] (some 0),.fn 222 [] [.ptr 1 1 0 0,.ptr 2 1 0 0]] [some (.arr 9 [rdC kind m over d M c n w most skips]),some (.arr 1 [[.ptr 0 9 0 0]]),some (.arr 1 [[.int .i64 col]])] (fun r H'=>r=colV (colL M w col n)∧H'=[some (.arr 9 [rdC kind m over d M c n w most skips]),some (.arr 1 [[.ptr 0 9 0 0]]),some (.arr 1 [[.int .i64 col]])]):=by
 have hrd:(rdC kind m over d M c n w most skips).all V.closed=true:=by simp [rdC,V.closed,tl,hm,hd]
 have hI:=rowIt_a hL (kind:=kind) (m:=m) (over:=over) (d:=d) (M:=M) (c:=c) (n:=n) (w:=w) (most:=most) (skips:=skips) (col:=col) (LP:=asLP) hm hd hn hw hc hM as_round
 generalize rdC kind m over d M c n w most skips=rd at *
 refine AFn.of_body (F:=T224.1) (by rw [hL];rfl) rfl ?_
 refine Wn0 ?_
 refine wRange rfl rfl ?_
 refine AFn.mono hI ?_
 rintro r h' ⟨rfl,rfl⟩
 generalize colL M w col n=l at *
 unfold colH asLP
 show qB _ (qN _ _ _ _ (FnQ _ _ _)) .normal _ _
 by_cases hl:l=[]
 ·subst hl
  rw [colT_nil,accV_nil]
  refine Wn0 ?_
  exact FnQ.sh [some 0,some 1,some 2] [] rfl rfl rfl (sh_c (congrArg some (blk_ren hrd)) (sh_c rfl (sh_c rfl sh_n))) ⟨rfl,rfl⟩
 ·rw [show colT l=[some (.arr 1 (l.map mrow))] from if_neg hl,accV_cons hl]
  refine Wn0 ?_
  refine FnQ.sh [some 0,some 1,some 2] [5] rfl rfl ?_ (sh_c (congrArg some (blk_ren hrd)) (sh_c rfl (sh_c rfl sh_n))) ⟨rfl,rfl⟩
  rw [show colV l=.lst 1 (l.map mrow) none from if_neg hl]
  exact frz_refS' (l:=l) (n:=1) closed_mrow Nat.one_pos rfl rfl rfl
theorem collectCol_a {kind:Int} {m:V} {over:Int} {d:V} {M:List Bool} {c:Option Nat} {n w most:Nat} {skips:Int} {col:Nat} (hm:m.closed=true) (hd:d.closed=true) (hn:n≤1000) (hw:w≤1000) (hc:col < w) (hM:M.length=n*w) :
    AFn L (.fn 213) [.fn 222 [] [.ptr 1 1 0 0,.ptr 2 1 0 0]] [some (.arr 9 [rdC kind m over d M c n w most skips]),some (.arr 1 [[.ptr 0 9 0 0]]),some (.arr 1 [[.int .i64 col]])] (fun r H'=>r=colV (colL M w col n)∧H'=[some (.arr 9 [rdC kind m over d M c n w most skips]),some (.arr 1 [[.ptr 0 9 0 0]]),some (.arr 1 [[.int .i64 col]])]):=by
 have ha:=asCol_a hL (kind:=kind) (over:=over) (c:=c) (most:=most) (skips:=skips) hm hd hn hw hc hM
 have hc:=closed_colV (colL M w col n)
 generalize colV (colL M w col n)=v at *
 generalize rdC kind m over d M c n w most skips=rd at *
 refine AFn.of_body (F:=T213.1) (by rw [hL];rfl) rfl ?_
 refine Wn0 ?_
 refine opsP_any rfl ha ?_
 rintro r h' ⟨rfl,rfl⟩
 refine Wn0 ?_
 exact FnQ.at rfl ⟨rfl,rfl⟩
theorem marks_a {kind:Int} {m:V} {over:Int} {d:V} {M:List Bool} {c:Option Nat} {n w most:Nat} {skips:Int} (hm:m.closed=true) (hd:d.closed=true) (hn:n≤1000) (hw:w≤1000) (hc:0 < w) (hM:M.length=n*w) :
    AFn L (.fn 202) [.ptr 0 9 0 0] [some (.arr 9 [rdC kind m over d M c n w most skips])] (fun r H'=>r=.tup []∧H'=[some (.arr 9 [if most < (colL M w 0 n).length then rdC kind nilV 1 d M c n w most skips else rdC kind (colV (colL M w 0 n)) over d M c n w most skips])]):=by
 have ha:=collectCol_a hL (kind:=kind) (over:=over) (c:=c) (most:=most) (skips:=skips) (col:=0) hm hd hn hw hc hM
 have hr:=row_a hL (rd:=rdC kind m over d M c n w most skips) (col:=0)
 obtain ⟨s,k,hv,hs⟩:=colV_tl (colL M w 0 n)
 rw [hv] at ha ⊢
 generalize colL M w 0 n=l at *
 refine AFn.of_body (F:=T202.1) (by rw [hL];rfl) rfl ?_
 refine Wn0 ?_
 refine opsP_any rfl hr ?_
 rintro r h' ⟨rfl,rfl⟩
 refine Wn0 ?_
 refine opsP_any rfl ha ?_
 rintro r h' ⟨rfl,rfl⟩
 unfold rdC
 by_cases h:most < l.length
 ·rw [if_pos h]
  refine Wf0 (show (most:Int) < l.length by omega) ?_
  exact FnQ.sh [some 0] [] rfl rfl rfl (sh_c (congrArg some (blk_ren (by simp [V.closed,tl,nilV,hd]))) sh_n) ⟨rfl,rfl⟩
 ·rw [if_neg h]
  refine Wf0 (show ¬(most:Int) < l.length by omega) ?_
  exact FnQ.sh [some 0] [] rfl rfl rfl (sh_c (congrArg some (blk_ren (by simp [V.closed,tl,hd]))) sh_n) ⟨rfl,rfl⟩
end Go.Proofs.YtigdhgbkgfagiaaGreat
