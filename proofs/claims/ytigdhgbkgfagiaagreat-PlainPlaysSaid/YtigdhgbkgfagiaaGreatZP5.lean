/- Sheets: a column's marked boxes, handed out while marks have been read, walked. (The text of the iterator, with one more block.) · Sheets: ranks, by the program, walked. -/
import Derived.Test.YtigdhgbkgfagiaaGreatZM1
import Derived.Test.YtigdhgbkgfagiaaGreatZM2
import Derived.Test.YtigdhgbkgfagiaaGreatZP4
set_option maxRecDepth 100000
set_option maxHeartbeats 4000000
set_option linter.unusedVariables false
set_option linter.unusedSimpArgs false
namespace Go.Proofs.YtigdhgbkgfagiaaGreat
def colHB (rd:List V) (col:Int) (MB:List Int) (LP:Blk) (r:List Int):Heap:=some (.arr 9 [rd])::some (.arr 1 [[.ptr 0 9 0 0]])::some (.arr 1 [[.int .i64 col]])::some (.arr 1 [[accV 6 1 r]])::some (.arr 1 (MB.map mrow))::some LP::colT r
theorem sgB6 {H:Heap}:∀a,a < 6→sgOf H ((List.range 6).map some) [] a=.to a
 | 0,_=>rfl
 | 1,_=>rfl
 | 2,_=>rfl
 | 3,_=>rfl
 | 4,_=>rfl
 | 5,_=>rfl
 | n+6,h=>absurd h (by omega)
theorem sgB7 {H:Heap}:∀a,a < 6→sgOf H ((List.range 7).map some) [] a=.to a
 | 0,_=>rfl
 | 1,_=>rfl
 | 2,_=>rfl
 | 3,_=>rfl
 | 4,_=>rfl
 | 5,_=>rfl
 | n+6,h=>absurd h (by omega)
theorem outB6:∀a,a < 6→outσ 6 (List.range 6) a=.to a
 | 0,_=>rfl
 | 1,_=>rfl
 | 2,_=>rfl
 | 3,_=>rfl
 | 4,_=>rfl
 | 5,_=>rfl
 | n+6,h=>absurd h (by omega)
theorem outB7:∀a,a < 6→outσ 7 (List.range 7) a=.to a
 | 0,_=>rfl
 | 1,_=>rfl
 | 2,_=>rfl
 | 3,_=>rfl
 | 4,_=>rfl
 | 5,_=>rfl
 | n+6,h=>absurd h (by omega)
theorem shB0 {H:Heap}:∀a,a < 6→sgOf H [some 0,some 1,some 2,some 3,some 4,some 5,some 7] [] a=.to a
 | 0,_=>rfl
 | 1,_=>rfl
 | 2,_=>rfl
 | 3,_=>rfl
 | 4,_=>rfl
 | 5,_=>rfl
 | n+6,h=>absurd h (by omega)
theorem shB1 {H:Heap}:∀a,a < 6→sgOf H [some 0,some 1,some 2,some 3,some 4,some 5,some 8] [] a=.to a
 | 0,_=>rfl
 | 1,_=>rfl
 | 2,_=>rfl
 | 3,_=>rfl
 | 4,_=>rfl
 | 5,_=>rfl
 | n+6,h=>absurd h (by omega)
theorem backB6 {A0 A1 A2 A3 A4 A5 B0 B1 B2 B3 B4 B5 B6 B7:Option Blk}:Heap.back [A0,A1,A2,A3,A4,A5] (List.range 6) [B0,B1,B2,B3,B4,B5,B6,B7]=[B0,B1,B2,B3,B4,B5,B6,B7].map (Option.map (Blk.ren (outσ 6 (List.range 6)))):=rfl
theorem backB7 {A0 A1 A2 A3 A4 A5 A6 B0 B1 B2 B3 B4 B5 B6 B7 B8:Option Blk}:Heap.back [A0,A1,A2,A3,A4,A5,A6] (List.range 7) [B0,B1,B2,B3,B4,B5,B6,B7,B8]=[B0,B1,B2,B3,B4,B5,B6,B7,B8].map (Option.map (Blk.ren (outσ 7 (List.range 7)))):=rfl
theorem rd_ren {kind over:Int} {d:V} {M:List Bool} {c:Option Nat} {n w most k:Nat} {skips:Int} (hd:d.closed=true) {σ:Nat→Sg} (h:∀a,a < 6→σ a=.to a):Blk.ren σ (.arr 9 [rdC kind (.ref 4 1 0 k none) over d M c n w most skips])=.arr 9 [rdC kind (.ref 4 1 0 k none) over d M c n w most skips]:=by
 show Blk.arr 9 [(rdC kind (.ref 4 1 0 k none) over d M c n w most skips).map (V.ren σ)]=_
 simp [rdC,V.ren,h 4 (by decide),V.ren_closed σ hd,tl]
structure RoundOkB (L:Lib) (rd:List V) (col:Int) (MB:List Int) (LP:Blk):Prop where
 h0:∀x:Int,AFn L (.yl 5) [.int .i64 x] (colHB rd col MB LP []) (fun v H'=>v=.bool true∧H'=[some (.arr 9 [rd]),some (.arr 1 [[.ptr 0 9 0 0]]),some (.arr 1 [[.int .i64 col]]),some (.arr 1 [[.ref 7 1 0 1 none]]),some (.arr 1 (MB.map mrow)),some LP,some (.arr 1 [[.int .i64 x]]),some (.arr 1 [[.int .i64 x]])])
 h1:∀(r:List Int) (x:Int),r≠[]→r.length≤1000→AFn L (.yl 5) [.int .i64 x] (colHB rd col MB LP r) (fun v H'=>v=.bool true∧H'=[some (.arr 9 [rd]),some (.arr 1 [[.ptr 0 9 0 0]]),some (.arr 1 [[.int .i64 col]]),some (.arr 1 [[.ref 8 1 0 (r.length+1) none]]),some (.arr 1 (MB.map mrow)),some LP,none,some (.arr 1 [[.int .i64 x]]),some (.arr 1 ((r++[x]).map mrow))])
 ren:∀σ:Nat→Sg,(∀a,a < 6→σ a=.to a)→LP.ren σ=LP
variable {L:Lib} (hL:L.T=tab.get)
include hL
theorem rowItB_a {kind:Int} {MB:List Int} {over:Int} {d:V} {M:List Bool} {c:Option Nat} {n w most:Nat} {skips:Int} {col:Nat} {LP:Blk} (hd:d.closed=true) (hn:n≤1000) (hw:w≤1000) (hc:col < w) (hM:M.length=n*w)
    (hR:RoundOkB L (rdC kind (.ref 4 1 0 MB.length none) over d M c n w most skips) col MB LP) :
    AFn L (.fn 222) [.yld 5,.ptr 1 1 0 0,.ptr 2 1 0 0] (colHB (rdC kind (.ref 4 1 0 MB.length none) over d M c n w most skips) col MB LP []) (fun r H'=>r=.tup []∧H'=colHB (rdC kind (.ref 4 1 0 MB.length none) over d M c n w most skips) col MB LP (colL M w col n)):=by
 refine AFn.of_body (F:=T222.1) (by rw [hL];rfl) rfl ?_
 unfold colHB rdC colT
 refine Wn0 ?_
 refine wCntH rfl 9 n (fun _=>[]) (fun j=>colHB (rdC kind (.ref 4 1 0 MB.length none) over d M c n w most skips) col MB LP (colL M w col j)) (fun _=>True) rfl rfl trivial ?_ ?_
 ·intro j hj _
  have hx:j*w+col < M.length:=by
   rw [hM]
   have:(j+1)*w≤n*w:=Nat.mul_le_mul_right _ hj
   rw [Nat.succ_mul] at this;omega
  have hxb:j*w+col < 1000000:=by
   rw [hM] at hx
   exact Nat.lt_of_lt_of_le hx (Nat.mul_le_mul hn hw)
  have hjw:j*w < 1000000:=by omega
  have w1:IntKind.i64.wrap ((j:Int)*(w:Int))=((j*w:Nat):Int):=by rw [←Int.natCast_mul];exact wrap_nat (by omega)
  have w2:IntKind.i64.wrap (((j*w:Nat):Int)+(col:Int))=((j*w+col:Nat):Int):=by rw [←Int.natCast_add];exact wrap_nat (by omega)
  have hw3:=wrap_succ (show j < 9223372036854775807 by omega)
  obtain ⟨b,hb⟩:∃b,M[j*w+col]?=some b:=⟨_,List.getElem?_eq_getElem hx⟩
  have hcl:colL M w col (j+1)=colL M w col j++(if b then [(j:Int)] else []):=by
   show colL M w col j++_=_
   rw [hb];rfl
  have hlen:=colL_len (M:=M) (w:=w) (col:=col) j
  rw [hcl]
  generalize colL M w col j=r at *
  generalize hX:j*w+col=X at *
  generalize hY:j*w=Y at *
  cases b with
  | false=>
   rw [if_neg (by simp),List.append_nil]
   unfold colHB rdC colT
   refine Wf0 (Q5 (show (j:Int) < n by omega) w1 w2 (iT hx) (Q3 hb @brow_eq hw3)) ?_
   exact qR_n rfl rfl trivial
  | true=>
   rw [if_pos rfl]
   by_cases hr:r=[]
   ·subst hr
    (repeat' (first|refine Z0 ?_|refine Z1 ?_|simp only [seval,push_cast,↓reduceIte,↓bP_some,↓aP_true,reduceCtorEq,show (j:Int) < n by omega]))
    refine wDrawD rfl ?_
    unfold colHB rdC colT
    refine dops_op rfl rfl rfl rfl (by kernel_rfl) ?_;refine dops_op rfl rfl rfl rfl (by kernel_rfl) ?_;refine dops_op rfl rfl rfl rfl (by kernel_rfl) ?_;refine dops_op rfl rfl rfl rfl (by kernel_rfl) ?_;refine dops_op rfl rfl rfl rfl (by kernel_rfl) ?_
    simp only [seval,push_cast,↓reduceIte,↓bP_some,↓aP_true,reduceCtorEq,happ_eq,upds_nil,upds_cons,List.map_nil,List.append_nil]
    refine dops_op rfl rfl rfl rfl (by kernel_rfl) ?_;refine dops_op rfl rfl rfl rfl (by kernel_rfl) ?_;refine dops_op rfl rfl rfl rfl (by kernel_rfl) ?_;refine dops_op rfl rfl rfl rfl (by kernel_rfl) ?_;refine dops_op rfl rfl rfl rfl (by kernel_rfl) ?_
    simp only [seval,push_cast,↓reduceIte,↓bP_some,↓aP_true,reduceCtorEq,happ_eq,upds_nil,upds_cons,List.map_nil,List.append_nil,w1]
    refine dops_op rfl rfl rfl rfl (by kernel_rfl) ?_;refine dops_op rfl rfl rfl rfl (by kernel_rfl) ?_
    simp only [seval,push_cast,↓reduceIte,↓bP_some,↓aP_true,reduceCtorEq,happ_eq,upds_nil,upds_cons,List.map_nil,List.append_nil,w2]
    refine dops_iaT (f:=brow) (t:=M) (c:=c) (j:=X) rfl rfl hx (by kernel_rfl) ?_
    refine dops_ldI (v:=.bool true) rfl (show (M.map brow)[X]?=some (brow true) by rw [List.getElem?_map,hb];rfl) rfl (by kernel_rfl) ?_
    refine dops_op rfl rfl rfl rfl (by kernel_rfl) ?_;refine dops_op rfl rfl rfl rfl (by kernel_rfl) ?_;refine dops_op rfl rfl rfl rfl (by kernel_rfl) ?_
    simp only [seval,push_cast,↓reduceIte,↓bP_some,↓aP_true,reduceCtorEq,happ_eq,upds_nil,upds_cons,List.map_nil,List.append_nil]
    refine dops_yl (y:=5) (c:=.dyn (.t 27)) rfl rfl rfl rfl rfl rfl rfl ?_ (hR.h0 (j:Int)) (show 6≤8 by decide) ?_ (fun r=>by kernel_rfl) ?_
    ·exact sh_c (congrArg some (rd_ren hd sgB6)) (sh_c rfl (sh_c rfl (sh_c rfl (sh_c (sh_b closed_mrow rfl) (sh_c (congrArg some (hR.ren _ sgB6)) sh_n)))))
    ·refine backB6.trans ?_
     exact mp_c (congrArg some (rd_ren hd outB6)) (mp_c rfl (mp_c rfl (mp_c rfl (mp_c mp_l (mp_c (congrArg some (hR.ren _ outB6)) (mp_c rfl (mp_c rfl mp_n)))))))
    intro rec
    refine dops_op rfl rfl rfl rfl (by kernel_rfl) ?_;refine dops_op rfl rfl rfl rfl (by kernel_rfl) ?_
    refine dops_nil ?_
    refine Xf0 hw3 ?_
    refine qR_s [some 0,some 1,some 2,some 3,some 4,some 5,some 7] [] rfl rfl ?_ trivial
    exact sh_c (congrArg some (rd_ren hd shB0)) (sh_c rfl (sh_c rfl (sh_c rfl (sh_c (sh_b closed_mrow rfl) (sh_c (congrArg some (hR.ren _ shB0)) (sh_c rfl sh_n))))))
   ·(repeat' (first|refine Z0 ?_|refine Z1 ?_|simp only [seval,push_cast,↓reduceIte,↓bP_some,↓aP_true,reduceCtorEq,show (j:Int) < n by omega]))
    refine wDrawD rfl ?_
    unfold colHB rdC colT
    rw [if_neg hr,accV_cons hr]
    refine dops_op rfl rfl rfl rfl (by kernel_rfl) ?_;refine dops_op rfl rfl rfl rfl (by kernel_rfl) ?_;refine dops_op rfl rfl rfl rfl (by kernel_rfl) ?_;refine dops_op rfl rfl rfl rfl (by kernel_rfl) ?_;refine dops_op rfl rfl rfl rfl (by kernel_rfl) ?_
    simp only [seval,push_cast,↓reduceIte,↓bP_some,↓aP_true,reduceCtorEq,happ_eq,upds_nil,upds_cons,List.map_nil,List.append_nil]
    refine dops_op rfl rfl rfl rfl (by kernel_rfl) ?_;refine dops_op rfl rfl rfl rfl (by kernel_rfl) ?_;refine dops_op rfl rfl rfl rfl (by kernel_rfl) ?_;refine dops_op rfl rfl rfl rfl (by kernel_rfl) ?_;refine dops_op rfl rfl rfl rfl (by kernel_rfl) ?_
    simp only [seval,push_cast,↓reduceIte,↓bP_some,↓aP_true,reduceCtorEq,happ_eq,upds_nil,upds_cons,List.map_nil,List.append_nil,w1]
    refine dops_op rfl rfl rfl rfl (by kernel_rfl) ?_;refine dops_op rfl rfl rfl rfl (by kernel_rfl) ?_
    simp only [seval,push_cast,↓reduceIte,↓bP_some,↓aP_true,reduceCtorEq,happ_eq,upds_nil,upds_cons,List.map_nil,List.append_nil,w2]
    refine dops_iaT (f:=brow) (t:=M) (c:=c) (j:=X) rfl rfl hx (by kernel_rfl) ?_
    refine dops_ldI (v:=.bool true) rfl (show (M.map brow)[X]?=some (brow true) by rw [List.getElem?_map,hb];rfl) rfl (by kernel_rfl) ?_
    refine dops_op rfl rfl rfl rfl (by kernel_rfl) ?_;refine dops_op rfl rfl rfl rfl (by kernel_rfl) ?_;refine dops_op rfl rfl rfl rfl (by kernel_rfl) ?_
    simp only [seval,push_cast,↓reduceIte,↓bP_some,↓aP_true,reduceCtorEq,happ_eq,upds_nil,upds_cons,List.map_nil,List.append_nil]
    refine dops_yl (y:=5) (c:=.dyn (.t 27)) rfl rfl rfl rfl rfl rfl rfl ?_ ((hR.h1 r (j:Int) hr (by omega)).cast ?_) (show 7≤9 by decide) ?_ (fun r=>by kernel_rfl) ?_
    ·exact sh_c (congrArg some (rd_ren hd sgB7)) (sh_c rfl (sh_c rfl (sh_c rfl (sh_c (sh_b closed_mrow rfl) (sh_c (congrArg some (hR.ren _ sgB7)) (sh_c (sh_b closed_mrow rfl) sh_n))))))
    ·unfold colHB colT
     rw [if_neg hr,accV_cons hr];rfl
    ·refine backB7.trans ?_
     exact mp_c (congrArg some (rd_ren hd outB7)) (mp_c rfl (mp_c rfl (mp_c rfl (mp_c mp_l (mp_c (congrArg some (hR.ren _ outB7)) (mp_c rfl (mp_c rfl (mp_c mp_l mp_n))))))))
    intro rec
    refine dops_op rfl rfl rfl rfl (by kernel_rfl) ?_;refine dops_op rfl rfl rfl rfl (by kernel_rfl) ?_
    refine dops_nil ?_
    refine Xf0 hw3 ?_
    refine qR_s [some 0,some 1,some 2,some 3,some 4,some 5,some 8] [] rfl rfl ?_ trivial
    rw [if_neg (show ¬r++[(j:Int)]=[] by simp),accV_snoc]
    exact sh_c (congrArg some (rd_ren hd shB1)) (sh_c rfl (sh_c rfl (sh_c rfl (sh_c (sh_b closed_mrow rfl) (sh_c (congrArg some (hR.ren _ shB1)) (sh_c (sh_b closed_mrow rfl) sh_n))))))
 ·intro _
  refine Wn0 ?_
  refine Eq.mpr (if_pos rfl) ?_
  exact FnQ.atN rfl ⟨rfl,rfl⟩
end Go.Proofs.YtigdhgbkgfagiaaGreat
namespace Go.Proofs.YtigdhgbkgfagiaaGreat
section
variable {L:Lib} {i:AI} {l:List AI} {rs:List Rec} {ms:List Nat} {K:Env→Heap→Prop} {E:Env} {H:Heap}
theorem dops_lendN {f:Nat} {c:ACallee} {args:List AOpd} {vs vs':List V} {r:V} (bor:List Nat) (hg:i.goes E.get=some true) (hop:i.op=.call c args) (hv:callee L.G E.get c args=some (.fn f,vs)) (hvs:vs.map (V.ren (sgOf H [] bor))=vs') (hf:VFn L f vs' r) (hr:r.noLst=true)
    (hi:indB (ancM ms i.anc) { dst:=i.dst,looks:=i.looks,v:=some r,need:=bor,eff:=[],slot:=H.length,k:=0 } 0 rs=true)
    (k:dopsP L l (rs++[{ dst:=i.dst,looks:=i.looks,v:=some r,need:=bor,eff:=[],slot:=H.length,k:=0 }]) (ms++[ancM ms i.anc]) K (E.put i.dst r) H):dopsP L (i::l) rs ms K E H:=by
 unfold dopsP dstepP
 rw [hg]
 dsimp only
 rw [hop]
 dsimp only
 rw [hv]
 show FnD L (.fn f) vs H _
 refine ⟨[],bor,[],r,[],.fn f,rfl,rfl,rfl,?_,by simp [outOk,hr],Nat.le_refl _,fun i hi=>by simp at hi,?_⟩
 ·show AFn L (.fn f) (vs.map (V.ren (sgOf H [] bor))) [] _
  rw [hvs]
  exact hf.2.2
 ·rw [V.ren_closed _ hf.2.1]
  have e2:H.back [] []=H:=by simp [Heap.back,Heap.upds]
  rw [e2]
  exact ⟨hi,k⟩
end
def rkL (M:List Bool) (n w:Nat) (skips:Int):Nat→Nat→Nat→List Int→List Int×Bool
 | 0,_,_,ms=>(ms,false)
 | k+1,j,sk,ms=>
  match colL M w j n with
  | []=>if ((sk+1:Nat):Int)=skips then (ms,false) else rkL M n w skips k (j+1) (sk+1) ms
  | [x]=>rkL M n w skips k (j+1) 0 (if x∈ms then ms else ms++[x])
  | _=>(ms,true)
def rkH (rd:V→List V) (ms:List Int):Heap:=some (.arr 9 [rd (accV 1 1 ms)])::colT ms
def rkE (j sk w:Nat):Env:=[(0,V.ptr 0 9 0 0),(2,V.int .i64 sk),(4,V.ptr 3 1 0 0),(9,V.int .i64 w),(10,V.int .i64 j),(15,V.fn 222 [] [V.ptr 1 1 0 0,V.ptr 2 1 0 0])]
noncomputable def rkLP (j sk w:Nat):Blk:=.loop T200.1.ntmps (rkE j sk w) T200.1.body.r.r.r.l.l.r.r.l.l.r.r.l.r.l.ps T200.1.body.r.r.r.l.l.r.r.l.l.r.r.l.r.l.l T200.1.body.r.r.r.l.l.r.r.l.l.r.r.l.r.l.r
structure RkI (M:List Bool) (n w:Nat) (skips:Int) (res:List Int×Bool) (s:Nat×Nat×List Int):Prop where
 j:s.1≤w
 sk:s.2.1≤s.1
 ms:s.2.2.length≤s.1
 res:rkL M n w skips (w - s.1) s.1 s.2.1 s.2.2=res
theorem if_ne {a b:Nat} {p q:Prop} (h:Nat.beq a b=false) (k:q):if a=b then p else q:=by
 rw [if_neg (by intro e;subst e;rw [Nat.beq_refl] at h;cases h)];exact k
theorem if_eq {a b:Nat} {p q:Prop} (h:Nat.beq a b=true) (k:p):if a=b then p else q:=by
 rw [if_pos (Nat.eq_of_beq_eq_true h)];exact k
theorem rd_renK {kind over:Int} {d:V} {M:List Bool} {c:Option Nat} {n w most k p q:Nat} {skips:Int} (hd:d.closed=true) {σ:Nat→Sg} (h:σ p=.to q):Blk.ren σ (.arr 9 [rdC kind (.ref p 1 0 k none) over d M c n w most skips])=.arr 9 [rdC kind (.ref q 1 0 k none) over d M c n w most skips]:=by
 show Blk.arr 9 [(rdC kind (.ref p 1 0 k none) over d M c n w most skips).map (V.ren σ)]=_
 simp [rdC,V.ren,h,V.ren_closed σ hd,tl]
theorem rd_renF {kind over:Int} {d:V} {M:List Bool} {c:Option Nat} {n w most p:Nat} {skips:Int} {ms:List Int} (hd:d.closed=true) (hm:ms≠[]) {H:Heap} (hp:posIn [some 0] p 0=none) (h:H.get p=some (.arr 1 (ms.map mrow))):Blk.ren (sgOf H [some 0] [p]) (.arr 9 [rdC kind (.ref p 1 0 ms.length none) over d M c n w most skips])=.arr 9 [rdC kind (colV ms) over d M c n w most skips]:=by
 show Blk.arr 9 [(rdC kind (.ref p 1 0 ms.length none) over d M c n w most skips).map (V.ren (sgOf H [some 0] [p]))]=_
 have h1:=frz_refS' (fz:=[p]) (src:=[some 0]) (c:=none) (f:=mrow) (n:=1) (l:=ms) closed_mrow Nat.one_pos hp (by simp) h
 rw [show colV ms=tl mrow 1 ms none from if_neg hm]
 simp only [rdC,List.map_cons,List.map_nil,h1,V.ren_closed _ hd]
 rfl
variable {L:Lib} (hL:L.T=tab.get)
include hL
theorem indexI_v {s:Nat} {l:List Int} {c:Option Nat} {y:Int} (hs:s=1∨l=[]) (hl:l.length < 4611686018427387904):VFn L 223 [tl mrow s l c,.int .i64 y] (.int .i64 (findG (fun x=>decide (y=x)) l 0)):=by
 refine VFn.start (F:=T223.1) (by rw [hL];rfl) rfl rfl rfl ?_
 refine Wn0 ?_
 refine wCnt rfl 8 l.length (fun _=>[]) (fun j=>findG (fun x=>decide (y=x)) l 0=findG (fun x=>decide (y=x)) (l.drop j) j) rfl rfl ?_ ?_
 ·intro j hj hI
  obtain ⟨x,hx,hm⟩:=get_of hj
  obtain rfl:=size_of hs hj
  have hd:=drop_atG hx
  by_cases hp:y=x
  ·subst hp
   refine Wf0 (Q4 hj (iT hj) hx @mrow_eq) ?_
   rw [show findG (fun x=>decide (y=x)) l 0=(j:Int) by rw [hI,hd];exact if_pos (by simp)]
   exact FnQ.ret rfl rfl
  ·refine Wf0 (Q5 hj (iT hj) hx @mrow_eq (Q2 hp (wrap_succ (show j < 9223372036854775807 by omega)))) ?_
   refine qR_n rfl rfl ?_
   rw [hI,hd]
   exact if_neg (by simp [hp])
 ·intro hI
  refine Wn0 ?_
  rw [show findG (fun x=>decide (y=x)) l 0=-1 by rw [hI,List.drop_eq_nil_of_le (Nat.le_refl _)];rfl]
  exact FnQ.ret rfl rfl
theorem containI_v {s:Nat} {l:List Int} {c:Option Nat} {y:Int} (hs:s=1∨l=[]) (hl:l.length < 4611686018427387904):VFn L 210 [tl mrow s l c,.int .i64 y] (.bool (decide (y∈l))):=by
 have ki:=indexI_v hL (c:=c) (y:=y) hs hl
 have he:decide (y∈l)=decide (0≤findG (fun x=>decide (y=x)) l 0):=by
  rw [findG_any]
  rw [Bool.eq_iff_iff]
  simp
 rw [he]
 refine VFn.start (F:=T210.1) (by rw [hL];rfl) rfl rfl rfl ?_
 refine Wn1 ki ?_
 exact FnQ.ret rfl rfl
theorem row2_a {rd:List V} {col:Int} {B:Option Blk}:AFn L (.fn 209) [.ptr 0 9 0 0,.int .i64 col] [some (.arr 9 [rd]),B] (fun r H'=>r=.fn 222 [] [.ptr 2 1 0 0,.ptr 3 1 0 0]∧H'=[some (.arr 9 [rd]),B,some (.arr 1 [[.ptr 0 9 0 0]]),some (.arr 1 [[.int .i64 col]])]):=by
 refine AFn.of_body (F:=T209.1) (by rw [hL];rfl) rfl ?_
 refine Wn0 ?_
 exact FnQ.at rfl ⟨rfl,rfl⟩
theorem row3_a {rd:List V} {col:Int} {B B':Option Blk}:AFn L (.fn 209) [.ptr 0 9 0 0,.int .i64 col] [some (.arr 9 [rd]),B,B'] (fun r H'=>r=.fn 222 [] [.ptr 3 1 0 0,.ptr 4 1 0 0]∧H'=[some (.arr 9 [rd]),B,B',some (.arr 1 [[.ptr 0 9 0 0]]),some (.arr 1 [[.int .i64 col]])]):=by
 refine AFn.of_body (F:=T209.1) (by rw [hL];rfl) rfl ?_
 refine Wn0 ?_
 exact FnQ.at rfl ⟨rfl,rfl⟩
omit hL in
theorem rk_round {rd:List V} {col:Int} {j sk w:Nat}:RoundOk L rd col (rkLP j sk w) where
 h0:=fun x=>by
  have hput:putArgs (rkE j sk w) T200.1.body.r.r.r.l.l.r.r.l.l.r.r.l.r.l.ps [V.int IntKind.i64 x]=[(0,V.ptr 0 9 0 0),(2,V.int .i64 sk),(4,V.ptr 3 1 0 0),(9,V.int .i64 w),(10,V.int .i64 j),(15,V.fn 222 [] [V.ptr 1 1 0 0,V.ptr 2 1 0 0]),(16,V.int .i64 x)]:=rfl
  unfold rkLP
  refine AFn.of_round rfl rfl rfl ?_
  unfold colH
  (repeat' (first|refine Z0 ?_|refine Z3 ?_|refine Z2 ?_|simp only [seval,push_cast,↓reduceIte,↓bP_some,↓aP_true,reduceCtorEq,accV_nil,hput,colT_nil]))
 h1:=fun r x hr hl=>by
  have hput:putArgs (rkE j sk w) T200.1.body.r.r.r.l.l.r.r.l.l.r.r.l.r.l.ps [V.int IntKind.i64 x]=[(0,V.ptr 0 9 0 0),(2,V.int .i64 sk),(4,V.ptr 3 1 0 0),(9,V.int .i64 w),(10,V.int .i64 j),(15,V.fn 222 [] [V.ptr 1 1 0 0,V.ptr 2 1 0 0]),(16,V.int .i64 x)]:=rfl
  have hroom:(r.length+1)*8≤140737488355328:=by omega
  unfold rkLP colH
  rw [show colT r=[some (.arr 1 (r.map mrow))] from if_neg hr]
  refine AFn.of_round rfl rfl rfl ?_
  (repeat' (first|refine Z0 ?_|refine Z3 ?_|refine Z2 ?_|simp only [seval,push_cast,↓reduceIte,↓bP_some,↓aP_true,reduceCtorEq,accV_cons hr,hroom,hput]))
 ren:=fun σ h=>by
  unfold rkLP rkE
  simp [Blk.ren,Env.sh,V.ren,V.rens,h 0 (by decide),h 1 (by decide),h 2 (by decide),h 3 (by decide)]
omit hL in
theorem rk_roundB {rd:List V} {col:Int} {MB:List Int} {j sk w:Nat}:RoundOkB L rd col MB (rkLP j sk w) where
 h0:=fun x=>by
  have hput:putArgs (rkE j sk w) T200.1.body.r.r.r.l.l.r.r.l.l.r.r.l.r.l.ps [V.int IntKind.i64 x]=[(0,V.ptr 0 9 0 0),(2,V.int .i64 sk),(4,V.ptr 3 1 0 0),(9,V.int .i64 w),(10,V.int .i64 j),(15,V.fn 222 [] [V.ptr 1 1 0 0,V.ptr 2 1 0 0]),(16,V.int .i64 x)]:=rfl
  unfold rkLP
  refine AFn.of_round rfl rfl rfl ?_
  unfold colHB
  (repeat' (first|refine Z0 ?_|refine Z3 ?_|refine Z2 ?_|simp only [seval,push_cast,↓reduceIte,↓bP_some,↓aP_true,reduceCtorEq,accV_nil,hput,colT_nil]))
 h1:=fun r x hr hl=>by
  have hput:putArgs (rkE j sk w) T200.1.body.r.r.r.l.l.r.r.l.l.r.r.l.r.l.ps [V.int IntKind.i64 x]=[(0,V.ptr 0 9 0 0),(2,V.int .i64 sk),(4,V.ptr 3 1 0 0),(9,V.int .i64 w),(10,V.int .i64 j),(15,V.fn 222 [] [V.ptr 1 1 0 0,V.ptr 2 1 0 0]),(16,V.int .i64 x)]:=rfl
  have hroom:(r.length+1)*8≤140737488355328:=by omega
  unfold rkLP colHB
  rw [show colT r=[some (.arr 1 (r.map mrow))] from if_neg hr]
  refine AFn.of_round rfl rfl rfl ?_
  (repeat' (first|refine Z0 ?_|refine Z3 ?_|refine Z2 ?_|simp only [seval,push_cast,↓reduceIte,↓bP_some,↓aP_true,reduceCtorEq,accV_cons hr,hroom,hput]))
 ren:=fun σ h=>by
  unfold rkLP rkE
  simp [Blk.ren,Env.sh,V.ren,V.rens,h 0 (by decide),h 1 (by decide),h 2 (by decide),h 3 (by decide)]
theorem ranks_a {kind:Int} {over:Int} {d:V} {M:List Bool} {c:Option Nat} {n w most:Nat} {skips:Int} (hd:d.closed=true) (hn:n≤1000) (hw:w≤1000) (hM:M.length=n*w) :
    AFn L (.fn 200) [.ptr 0 9 0 0] [some (.arr 9 [rdC kind nilV over d M c n w most skips])] (fun r H'=>r=.tup []∧H'=[some (.arr 9 [rdC kind (colV (rkL M n w skips w 0 0 []).1) (if (rkL M n w skips w 0 0 []).2 then 1 else over) d M c n w most skips])]):=by
 generalize hres:rkL M n w skips w 0 0 []=res
 refine AFn.of_body (F:=T200.1) (by rw [hL];rfl) rfl ?_
 unfold rdC
 refine Wn0 ?_
 refine wWhile rfl (fun s:Nat×Nat×List Int=>[(0,V.ptr 0 9 0 0),(2,V.int .i64 s.2.1),(9,V.int .i64 w),(10,V.int .i64 s.1)]) (fun s=>rkH (fun m=>rdC kind m over d M c n w most skips) s.2.2) (fun s=>w - s.1) (RkI M n w skips res) (0,0,[]) rfl rfl ⟨Nat.zero_le _,Nat.le_refl _,Nat.le_refl _,hres⟩ ?_
 rintro ⟨j,sk,ms⟩ hI
 obtain ⟨i1,i2,i3,i4⟩:=hI
 simp only at i1 i2 i3 i4
 unfold rkH
 by_cases hj:j < w
 ·by_cases hms:ms=[]
  ·subst hms
   rw [accV_nil,colT_nil]
   unfold rdC
   refine Wf0 (show (j:Int) < w by omega) ?_
   refine opsP_any rfl (row2_a hL) ?_
   rintro r h' ⟨rfl,rfl⟩
   refine Wn0 ?_
   have hrd:(rdC kind nilV over d M c n w most skips).all V.closed=true:=by simp [rdC,V.closed,tl,nilV,hd]
   refine wShift [some 0,some 2,some 3,some 1] [] (E1:=rkE j sk w) (H1:=[some (.arr 9 [rdC kind nilV over d M c n w most skips]),some (.arr 1 [[.ptr 0 9 0 0]]),some (.arr 1 [[.int .i64 j]]),some (.arr 1 [[.lst 0 [] (some 0)]])]) rfl rfl (sh_c (congrArg some (blk_ren hrd)) (sh_c rfl (sh_c rfl (sh_c rfl sh_n)))) ?_
   have hI:=rowIt_a hL (kind:=kind) (m:=nilV) (over:=over) (d:=d) (M:=M) (c:=c) (n:=n) (w:=w) (most:=most) (skips:=skips) (col:=j) (LP:=rkLP j sk w) rfl hd hn hw hj hM rk_round
   refine wRange rfl rfl ?_
   refine AFn.mono hI ?_
   rintro r h' ⟨rfl,rfl⟩
   have hs:rkL M n w skips (w - j) j sk []=match colL M w j n with
       | []=>if ((sk+1:Nat):Int)=skips then ([],false) else rkL M n w skips (w - (j+1)) (j+1) (sk+1) []
       | [x]=>rkL M n w skips (w - (j+1)) (j+1) 0 [x]
       | _=>([],true):=by
    rw [show w - j=(w - (j+1))+1 by omega]
    conv=>lhs;unfold rkL
    split <;> simp_all
   rw [hs] at i4
   have hcl:=colL_len (M:=M) (w:=w) (col:=j) n
   generalize colL M w j n=l at *
   unfold colH rkLP rkE rdC
   show qB _ (qN _ _ _ _ (qB _ _)) .normal _ _
   have hwr:=wrap_succ (show sk < 9223372036854775807 by omega)
   have hwj:=wrap_succ (show j < 9223372036854775807 by omega)
   match l,i4,hcl with
   | [],i4,hcl=>
    rw [colT_nil,accV_nil]
    by_cases hk:(sk:Int)+1=skips
    ·dsimp only at i4
     rw [if_pos (by omega)] at i4
     subst i4
     have hwk:IntKind.i64.wrap ((sk:Int)+1)=skips:=hwr.trans hk
     refine Xf0 hwk ?_
     refine if_ne rfl (if_ne rfl (if_eq rfl ?_))
     exact FnQ.sh [some 0] [] rfl rfl rfl (sh_c (congrArg some (blk_ren hrd)) sh_n) ⟨rfl,rfl⟩
    ·dsimp only at i4
     rw [if_neg (by omega)] at i4
     refine Wf0 (Q3 hwr hwj hk) ?_
     exact qW_s (j+1,sk+1,[]) [some 0] [] rfl rfl (sh_c (congrArg some (blk_ren hrd)) sh_n) ⟨by simp only;omega,by simp only;omega,by simp only;omega,by simp,i4⟩
   | [x],i4,hcl=>
    dsimp only at i4
    rw [show colT [x]=[some (.arr 1 [mrow x])] from rfl,accV_cons (by simp)]
    (repeat' (first|refine Z0 ?_|refine Z1 ?_|simp only [seval,push_cast,↓reduceIte,↓bP_some,↓aP_true,reduceCtorEq,hwr,hwj]))
    refine wDrawD rfl ?_
    refine dops_op rfl rfl rfl rfl (by kernel_rfl) ?_;refine dops_op rfl rfl rfl rfl (by kernel_rfl) ?_;refine dops_op rfl rfl rfl rfl (by kernel_rfl) ?_;refine dops_op rfl rfl rfl rfl (by kernel_rfl) ?_;refine dops_op rfl rfl rfl rfl (by kernel_rfl) ?_
    simp only [seval,push_cast,↓reduceIte,↓bP_some,↓aP_true,reduceCtorEq,happ_eq,upds_nil,upds_cons,List.map_nil,List.append_nil]
    refine dops_op rfl rfl rfl rfl (by kernel_rfl) ?_;refine dops_op rfl rfl rfl rfl (by kernel_rfl) ?_;refine dops_op rfl rfl rfl rfl (by kernel_rfl) ?_;refine dops_op rfl rfl rfl rfl (by kernel_rfl) ?_
    simp only [seval,push_cast,↓reduceIte,↓bP_some,↓aP_true,reduceCtorEq,happ_eq,upds_nil,upds_cons,List.map_nil,List.append_nil]
    refine dops_lendN [] rfl rfl rfl rfl (containI_v hL (s:=0) (c:=some 0) (l:=[]) (y:=x) (.inr rfl) (by simp)) rfl (by kernel_rfl) ?_
    refine dops_op rfl rfl rfl rfl (by kernel_rfl) ?_
    refine dops_nil ?_
    unfold nilV
    (repeat' (first|refine Z0 ?_|refine Z3 ?_|refine Z2 ?_|simp only [seval,push_cast,↓reduceIte,↓bP_some,↓aP_true,reduceCtorEq,happ_eq,upds_nil,upds_cons,List.map_nil,List.append_nil,Bool.not_true,Bool.not_false,hwj]))
    exact qW_s (j+1,0,[x]) [some 0,some 7] [] rfl rfl (sh_c (congrArg some (rd_renK hd rfl)) (sh_c rfl sh_n)) ⟨by simp only;omega,by simp only;omega,by simp only;omega,by simp,i4⟩
   | x::y::l,i4,hcl=>
    dsimp only at i4
    subst i4
    rw [show colT (x::y::l)=[some (.arr 1 ((x::y::l).map mrow))] from rfl,accV_cons (by simp)]
    refine Xf0 (show (1:Int) < (l.length:Int)+1+1 by omega) ?_
    refine if_ne rfl (if_ne rfl (if_eq rfl ?_))
    exact FnQ.sh [some 0] [] rfl rfl rfl (sh_c (congrArg some (blk_ren (by simp [V.closed,tl,nilV,hd]))) sh_n) ⟨rfl,rfl⟩
  ·rw [accV_cons hms,show colT ms=[some (.arr 1 (ms.map mrow))] from if_neg hms]
   unfold rdC
   refine Wf0 (show (j:Int) < w by omega) ?_
   refine opsP_any rfl (row3_a hL) ?_
   rintro r h' ⟨rfl,rfl⟩
   refine Wn0 ?_
   refine wShift [some 0,some 3,some 4,some 2,some 1] [] (E1:=rkE j sk w) (H1:=[some (.arr 9 [rdC kind (.ref 4 1 0 ms.length none) over d M c n w most skips]),some (.arr 1 [[.ptr 0 9 0 0]]),some (.arr 1 [[.int .i64 j]]),some (.arr 1 [[.lst 0 [] (some 0)]]),some (.arr 1 (ms.map mrow))]) rfl rfl (sh_c (congrArg some (rd_renK hd rfl)) (sh_c rfl (sh_c rfl (sh_c rfl (sh_c (sh_b closed_mrow rfl) sh_n))))) ?_
   have hI:=rowItB_a hL (kind:=kind) (MB:=ms) (over:=over) (d:=d) (M:=M) (c:=c) (n:=n) (w:=w) (most:=most) (skips:=skips) (col:=j) (LP:=rkLP j sk w) hd hn hw hj hM rk_roundB
   refine wRange rfl rfl ?_
   refine AFn.mono hI ?_
   rintro r h' ⟨rfl,rfl⟩
   have hs:rkL M n w skips (w - j) j sk ms=match colL M w j n with
       | []=>if ((sk+1:Nat):Int)=skips then (ms,false) else rkL M n w skips (w - (j+1)) (j+1) (sk+1) ms
       | [x]=>rkL M n w skips (w - (j+1)) (j+1) 0 (if x∈ms then ms else ms++[x])
       | _=>(ms,true):=by
    rw [show w - j=(w - (j+1))+1 by omega]
    conv=>lhs;unfold rkL
   rw [hs] at i4
   have hcl:=colL_len (M:=M) (w:=w) (col:=j) n
   generalize colL M w j n=l at *
   unfold colHB rkLP rkE rdC
   show qB _ (qN _ _ _ _ (qB _ _)) .normal _ _
   have hwr:=wrap_succ (show sk < 9223372036854775807 by omega)
   have hwj:=wrap_succ (show j < 9223372036854775807 by omega)
   match l,i4,hcl with
   | [],i4,hcl=>
    rw [colT_nil,accV_nil]
    by_cases hk:(sk:Int)+1=skips
    ·have hwk:IntKind.i64.wrap ((sk:Int)+1)=skips:=hwr.trans hk
     dsimp only at i4
     rw [if_pos (by omega)] at i4
     subst i4
     refine Xf0 hwk ?_
     refine if_ne rfl (if_ne rfl (if_eq rfl ?_))
     exact FnQ.sh [some 0] [4] rfl rfl rfl (sh_c (congrArg some (rd_renF hd hms rfl rfl)) sh_n) ⟨rfl,rfl⟩
    ·dsimp only at i4
     rw [if_neg (by omega)] at i4
     refine Wf0 (Q3 hwr hwj hk) ?_
     refine qW_s (j+1,sk+1,ms) [some 0,some 4] [] rfl rfl ?_ ⟨by simp only;omega,by simp only;omega,by simp only;omega,by simp only;omega,i4⟩
     rw [accV_cons hms,show colT ms=[some (.arr 1 (ms.map mrow))] from if_neg hms]
     exact sh_c (congrArg some (rd_renK hd rfl)) (sh_c (sh_b closed_mrow rfl) sh_n)
   | [x],i4,hcl=>
    dsimp only at i4
    rw [show colT [x]=[some (.arr 1 [mrow x])] from rfl,accV_cons (by simp)]
    (repeat' (first|refine Z0 ?_|refine Z1 ?_|simp only [seval,push_cast,↓reduceIte,↓bP_some,↓aP_true,reduceCtorEq,hwr,hwj]))
    refine wDrawD rfl ?_
    refine dops_op rfl rfl rfl rfl (by kernel_rfl) ?_;refine dops_op rfl rfl rfl rfl (by kernel_rfl) ?_;refine dops_op rfl rfl rfl rfl (by kernel_rfl) ?_;refine dops_op rfl rfl rfl rfl (by kernel_rfl) ?_;refine dops_op rfl rfl rfl rfl (by kernel_rfl) ?_
    simp only [seval,push_cast,↓reduceIte,↓bP_some,↓aP_true,reduceCtorEq,happ_eq,upds_nil,upds_cons,List.map_nil,List.append_nil]
    refine dops_op rfl rfl rfl rfl (by kernel_rfl) ?_;refine dops_op rfl rfl rfl rfl (by kernel_rfl) ?_;refine dops_op rfl rfl rfl rfl (by kernel_rfl) ?_;refine dops_op rfl rfl rfl rfl (by kernel_rfl) ?_
    simp only [seval,push_cast,↓reduceIte,↓bP_some,↓aP_true,reduceCtorEq,happ_eq,upds_nil,upds_cons,List.map_nil,List.append_nil]
    refine dops_lendN [4] rfl rfl rfl (congrArg (fun v=>[v,V.int .i64 x]) (frz_refS' (f:=mrow) (n:=1) (l:=ms) (c:=none) closed_mrow Nat.one_pos rfl rfl rfl)) (containI_v hL (s:=1) (c:=none) (l:=ms) (y:=x) (.inl rfl) (by omega)) rfl (by kernel_rfl) ?_
    refine dops_op rfl rfl rfl rfl (by kernel_rfl) ?_
    refine dops_nil ?_
    by_cases hx:x∈ms
    ·rw [if_pos hx] at i4
     (repeat' (first|refine Z0 ?_|refine Z3 ?_|refine Z2 ?_|simp only [seval,push_cast,↓reduceIte,↓bP_some,↓aP_true,reduceCtorEq,happ_eq,upds_nil,upds_cons,List.map_nil,List.append_nil,hx,decide_true,Bool.not_true,Bool.not_false,hwj]))
     refine qW_s (j+1,0,ms) [some 0,some 4] [] rfl rfl ?_ ⟨by simp only;omega,by simp only;omega,by simp only;omega,by simp only;omega,i4⟩
     rw [accV_cons hms,show colT ms=[some (.arr 1 (ms.map mrow))] from if_neg hms]
     exact sh_c (congrArg some (rd_renK hd rfl)) (sh_c (sh_b closed_mrow rfl) sh_n)
    ·rw [if_neg hx] at i4
     have hroom:(ms.length+1)*8≤140737488355328:=by omega
     (repeat' (first|refine Z0 ?_|refine Z3 ?_|refine Z2 ?_|simp only [seval,push_cast,↓reduceIte,↓bP_some,↓aP_true,reduceCtorEq,happ_eq,upds_nil,upds_cons,List.map_nil,List.append_nil,hx,decide_false,Bool.not_true,Bool.not_false,hwj,hroom,decide_true]))
     refine qW_s (j+1,0,ms++[x]) [some 0,some 8] [] rfl rfl ?_ ⟨by simp only;omega,by simp only;omega,by simp only;omega,by simp only [List.length_append,List.length_singleton];omega,i4⟩
     rw [accV_snoc,colT_snoc]
     exact sh_c (congrArg some (rd_renK hd rfl)) (sh_c (sh_b closed_mrow rfl) sh_n)
   | x::y::l,i4,hcl=>
    dsimp only at i4
    subst i4
    rw [show colT (x::y::l)=[some (.arr 1 ((x::y::l).map mrow))] from rfl,accV_cons (by simp)]
    refine Xf0 (show (1:Int) < (l.length:Int)+1+1 by omega) ?_
    refine if_ne rfl (if_ne rfl (if_eq rfl ?_))
    exact FnQ.sh [some 0] [4] rfl rfl rfl (sh_c (congrArg some (rd_renF hd hms rfl rfl)) sh_n) ⟨rfl,rfl⟩
 ·refine Wf0 (show ¬(j:Int) < w by omega) ?_
  refine Eq.mpr (if_pos rfl) ?_
  obtain rfl:j=w:=by omega
  rw [Nat.sub_self] at i4
  unfold rkL at i4
  subst i4
  by_cases hms:ms=[]
  ·subst hms
   rw [accV_nil,colT_nil]
   exact FnQ.sh [some 0] [] rfl rfl rfl (sh_c (congrArg some (blk_ren (by simp [rdC,V.closed,tl,hd]))) sh_n) ⟨rfl,rfl⟩
  ·rw [accV_cons hms,show colT ms=[some (.arr 1 (ms.map mrow))] from if_neg hms]
   exact FnQ.sh [some 0] [1] rfl rfl rfl (sh_c (congrArg some (rd_renF hd hms rfl rfl)) sh_n) ⟨rfl,rfl⟩
end Go.Proofs.YtigdhgbkgfagiaaGreat
