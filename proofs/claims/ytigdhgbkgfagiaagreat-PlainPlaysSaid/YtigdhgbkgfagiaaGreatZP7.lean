/- Sheets: Read, the refusals, by the program, walked. · The model of an election: its sets of voters as maps, names, walked. -/
import Derived.Test.YtigdhgbkgfagiaaGreatZM1
import Derived.Test.YtigdhgbkgfagiaaGreatZM2
import Derived.Test.YtigdhgbkgfagiaaGreatZP6
set_option maxRecDepth 100000
set_option maxHeartbeats 4000000
set_option linter.unusedVariables false
set_option linter.unusedSimpArgs false
namespace Go.Proofs.YtigdhgbkgfagiaaGreat
variable {L:Lib} (hL:L.T=tab.get)
include hL
theorem read_ok {c:Ct} {s:Nat} {k:Option Nat} {lo hi skips:Int} {s':Nat} {B:List Int} {k':Option Nat} {s2:Nat} {ds:List (Int×Bool)} {k2:Option Nat} (hs:s=1∨c.cands=[]) (hl:c.cands.length < 4611686018427387904) (hr:c.rule < 256) (hs':s'=1∨B=[]) (hB:B.length < 4611686018427387904) (hs2:s2=2∨ds=[]) (hd:ds.length < 4611686018427387904)
    (he:shCheck c B=0) (hb:¬(lo < 1∨hi < lo∨100 < hi∨skips < 0∨10 < skips)) (h6:¬B.length < ds.length) (hck:checkC c=0) :
    VFn L 147 [.agg (ctC c s k),.agg [.int .u8 lo,.int .u8 hi,.int .i64 skips],.agg [tl urow s' B k'],tl drow s2 ds k2] (.tup [.agg (rgC (readF c lo hi skips B ds).1),.int .i64 (readF c lo hi skips B ds).2]):=by
 have kc:=shCheck_v hL (k:=k) (k':=k') hs hl hr hs' hB
 rw [he] at kc
 have h1:¬lo < 1:=by omega
 have h2:¬hi < lo:=by omega
 have h3:¬100 < hi:=by omega
 have h4:¬skips < 0:=by omega
 have h5:¬10 < skips:=by omega
 obtain ⟨hc1,hc2,hc3⟩:=check_len hck
 have hBn:B.length=boxesN c:=by
  unfold shCheck at he
  rw [if_pos hck] at he
  by_cases h:B.length=boxesN c
  ·exact h
  ·rw [if_pos (.inl h)] at he;omega
 have hwl:=wide_le (k:=kindR c.rule) hc2
 have hwp:=wide_pos (k:=kindR c.rule) hc1
 have hB2:B.length≤110:=by
  rw [hBn]
  exact Nat.mul_le_mul hc2 hwl
 have km:=most_v hL hr hck
 have kk:=kind_v hL (n:=c.rule) hr
 rw [if_neg (by omega),if_neg (by omega)] at kk
 have kw:=wide_v hL (k:=kindR c.rule) (n:=c.cands.length)
 have hres:readF c lo hi skips B ds=resR (kindR c.rule) (decL ds (B.map fun b=>decide (hi≤b)) (B.map fun b=>decide (lo≤b)&&decide (b < hi))) c.cands.length (wideF (kindR c.rule) c.cands.length) (mostF c) skips:=by
  unfold readF
  rw [if_neg (by omega),if_neg (by unfold badP;exact hb),if_neg h6]
  rfl
 generalize readF c lo hi skips B ds=RES at *
 refine VFn.start (F:=T147.1) (by rw [hL];rfl) rfl rfl (closed_rgV _ _) ?_
 have h7:¬(B.length:Int) < ds.length:=by omega
 unfold ctC at kc ⊢
 (repeat' (first|refine Z0 ?_|refine Z1 ?_|refine wDrawM [174] rfl rfl ?_|refine opsV_call rfl rfl (kc) ?_|refine opsP_call rfl (kc) ?_|refine opsV_call rfl rfl (km) ?_|refine opsP_call rfl (km) ?_|refine opsV_call rfl rfl (kk) ?_|refine opsP_call rfl (kk) ?_|simp only [seval,push_cast,↓reduceIte,↓bP_some,↓aP_true,reduceCtorEq,h1,h2,h3,h4,h5,h7]))
 refine wDrawD rfl ?_
 refine dops_op rfl rfl rfl rfl (by kernel_rfl) ?_;refine dops_op rfl rfl rfl rfl (by kernel_rfl) ?_
 refine dops_lenT (f:=urow) (t:=B) (n:=s') (c:=k') rfl (by kernel_rfl) ?_
 simp only [seval,push_cast,↓reduceIte,↓bP_some,↓aP_true,reduceCtorEq,happ_eq,upds_nil,upds_cons,List.map_nil,List.append_nil]
 refine dops_mks (m:=B.length) rfl rfl (by omega) (by omega) rfl (by kernel_rfl) ?_
 refine dops_op rfl rfl rfl rfl (by kernel_rfl) ?_;refine dops_op rfl rfl rfl rfl (by kernel_rfl) ?_
 refine dops_lenT (f:=srow) (t:=c.cands) (n:=s) (c:=k) rfl (by kernel_rfl) ?_
 simp only [seval,push_cast,↓reduceIte,↓bP_some,↓aP_true,reduceCtorEq,happ_eq,upds_nil,upds_cons,List.map_nil,List.append_nil]
 refine dops_op rfl rfl rfl rfl (by kernel_rfl) ?_;refine dops_op rfl rfl rfl rfl (by kernel_rfl) ?_;refine dops_op rfl rfl rfl rfl (by kernel_rfl) ?_
 refine dops_lenT (f:=srow) (t:=c.cands) (n:=s) (c:=k) rfl (by kernel_rfl) ?_
 simp only [seval,push_cast,↓reduceIte,↓bP_some,↓aP_true,reduceCtorEq,happ_eq,upds_nil,upds_cons,List.map_nil,List.append_nil]
 refine dops_call rfl rfl rfl kw (by kernel_rfl) ?_
 refine dops_op rfl rfl rfl rfl (by kernel_rfl) ?_;refine dops_op rfl rfl rfl rfl (by kernel_rfl) ?_;refine dops_op rfl rfl rfl rfl (by kernel_rfl) ?_
 simp only [seval,push_cast,↓reduceIte,↓bP_some,↓aP_true,reduceCtorEq,happ_eq,upds_nil,upds_cons,List.map_nil,List.append_nil]
 refine dops_op rfl rfl rfl rfl (by kernel_rfl) ?_;refine dops_op rfl rfl rfl rfl (by kernel_rfl) ?_;refine dops_op rfl rfl rfl rfl (by kernel_rfl) ?_
 refine dops_nil ?_
 refine Xf0 (Q2 (show B.length*1≤140737488355328 by omega) (show B.length < 9223372036854775808 by omega)) ?_
 refine wCntH rfl 101 B.length (fun _=>[]) (fun j=>rdH c s k lo hi skips s' B k' (.lst 0 [] (some 0)) (mkL (fun b=>decide (hi≤b)) B j) (mkL (fun b=>decide (lo≤b)&&decide (b < hi)) B j)) (fun _=>True) rfl ?_ trivial ?_ ?_
 ·unfold rdH ctC
  rw [mkL_0,mkL_0,List.map_replicate]
  rfl
 ·intro j hj _
  obtain ⟨x,hx,-⟩:=get_of hj
  obtain rfl:=size_of hs' hj
  have hw:=wrap_succ (show j < 9223372036854775807 by omega)
  have hg1:=mkL_get (f:=fun b=>decide (hi≤b)) hj
  have hg2:=mkL_get (f:=fun b=>decide (lo≤b)&&decide (b < hi)) hj
  rw [←mkL_set (f:=fun b=>decide (hi≤b)) hx,←mkL_set (f:=fun b=>decide (lo≤b)&&decide (b < hi)) hx]
  have hn1:=mkL_len (f:=fun b=>decide (hi≤b)) (Nat.le_of_lt hj)
  have hn2:=mkL_len (f:=fun b=>decide (lo≤b)&&decide (b < hi)) (Nat.le_of_lt hj)
  generalize mkL (fun b=>decide (hi≤b)) B j=X1 at *
  generalize mkL (fun b=>decide (lo≤b)&&decide (b < hi)) B j=X2 at *
  unfold rdH ctC nilV
  by_cases hlo:lo≤x
  ·rw [show (decide (lo≤x)&&decide (x < hi))=decide (x < hi) by rw [decide_eq_true hlo,Bool.true_and]]
   refine Wf0 (Q4 hj (iT hj) hx @urow_eq) ?_
   refine wDrawD rfl ?_
   refine dops_op rfl rfl rfl rfl (by kernel_rfl) ?_;refine dops_op rfl rfl rfl rfl (by kernel_rfl) ?_;refine dops_op rfl rfl rfl rfl (by kernel_rfl) ?_;refine dops_op rfl rfl rfl rfl (by kernel_rfl) ?_;refine dops_op rfl rfl rfl rfl (by kernel_rfl) ?_
   simp only [seval,push_cast,↓reduceIte,↓bP_some,↓aP_true,reduceCtorEq,happ_eq,upds_nil,upds_cons,List.map_nil,List.append_nil]
   refine dops_op rfl rfl rfl rfl (by kernel_rfl) ?_;refine dops_op rfl rfl rfl rfl (by kernel_rfl) ?_;refine dops_op rfl rfl rfl rfl (by kernel_rfl) ?_;refine dops_op rfl rfl rfl rfl (by kernel_rfl) ?_;refine dops_op rfl rfl rfl rfl (by kernel_rfl) ?_
   simp only [seval,push_cast,↓reduceIte,↓bP_some,↓aP_true,reduceCtorEq,happ_eq,upds_nil,upds_cons,List.map_nil,List.append_nil]
   refine dops_op rfl rfl rfl rfl (by kernel_rfl) ?_;refine dops_op rfl rfl rfl rfl (by kernel_rfl) ?_;refine dops_op rfl rfl rfl rfl (by kernel_rfl) ?_;refine dops_op rfl rfl rfl rfl (by kernel_rfl) ?_;refine dops_op rfl rfl rfl rfl (by kernel_rfl) ?_
   simp only [seval,push_cast,↓reduceIte,↓bP_some,↓aP_true,reduceCtorEq,happ_eq,upds_nil,upds_cons,List.map_nil,List.append_nil,hlo]
   refine dops_op rfl rfl rfl rfl (by kernel_rfl) ?_
   simp only [seval,push_cast,↓reduceIte,↓bP_some,↓aP_true,reduceCtorEq,happ_eq,upds_nil,upds_cons,List.map_nil,List.append_nil,hlo]
   refine dops_op rfl rfl rfl rfl (by kernel_rfl) ?_;refine dops_op rfl rfl rfl rfl (by kernel_rfl) ?_;refine dops_op rfl rfl rfl rfl (by kernel_rfl) ?_;refine dops_op rfl rfl rfl rfl (by kernel_rfl) ?_;refine dops_op rfl rfl rfl rfl (by kernel_rfl) ?_
   simp only [seval,push_cast,↓reduceIte,↓bP_some,↓aP_true,reduceCtorEq,happ_eq,upds_nil,upds_cons,List.map_nil,List.append_nil]
   refine dops_iaR (j:=j) (a:=4) (m:=B.length) rfl rfl hj (by kernel_rfl) ?_
   refine dops_stR (j:=j) (rows:=X1.map brow) (u:=.bool false) rfl rfl rfl rfl rfl (by rw [List.getElem?_map,hg1];rfl) rfl (by kernel_rfl) ?_
   refine dops_iaR (j:=j) (a:=6) (m:=B.length) rfl rfl hj (by kernel_rfl) ?_
   refine dops_stR (j:=j) (rows:=X2.map brow) (u:=.bool false) rfl rfl rfl rfl rfl (by rw [List.getElem?_map,hg2];rfl) rfl (by kernel_rfl) ?_
   refine dops_nil ?_
   refine Wf0 (Q2 @brow_set' hw) ?_
   exact qR_n rfl rfl trivial
  ·rw [show (decide (lo≤x)&&decide (x < hi))=false by rw [decide_eq_false hlo,Bool.false_and]]
   refine Wf0 (Q4 hj (iT hj) hx @urow_eq) ?_
   refine wDrawD rfl ?_
   refine dops_op rfl rfl rfl rfl (by kernel_rfl) ?_;refine dops_op rfl rfl rfl rfl (by kernel_rfl) ?_;refine dops_op rfl rfl rfl rfl (by kernel_rfl) ?_;refine dops_op rfl rfl rfl rfl (by kernel_rfl) ?_;refine dops_op rfl rfl rfl rfl (by kernel_rfl) ?_
   simp only [seval,push_cast,↓reduceIte,↓bP_some,↓aP_true,reduceCtorEq,happ_eq,upds_nil,upds_cons,List.map_nil,List.append_nil]
   refine dops_op rfl rfl rfl rfl (by kernel_rfl) ?_;refine dops_op rfl rfl rfl rfl (by kernel_rfl) ?_;refine dops_op rfl rfl rfl rfl (by kernel_rfl) ?_;refine dops_op rfl rfl rfl rfl (by kernel_rfl) ?_;refine dops_op rfl rfl rfl rfl (by kernel_rfl) ?_
   simp only [seval,push_cast,↓reduceIte,↓bP_some,↓aP_true,reduceCtorEq,happ_eq,upds_nil,upds_cons,List.map_nil,List.append_nil]
   refine dops_op rfl rfl rfl rfl (by kernel_rfl) ?_;refine dops_op rfl rfl rfl rfl (by kernel_rfl) ?_;refine dops_op rfl rfl rfl rfl (by kernel_rfl) ?_;refine dops_op rfl rfl rfl rfl (by kernel_rfl) ?_;refine dops_op rfl rfl rfl rfl (by kernel_rfl) ?_
   simp only [seval,push_cast,↓reduceIte,↓bP_some,↓aP_true,reduceCtorEq,happ_eq,upds_nil,upds_cons,List.map_nil,List.append_nil,hlo]
   refine dops_op rfl rfl rfl rfl (by kernel_rfl) ?_
   simp only [seval,push_cast,↓reduceIte,↓bP_some,↓aP_true,reduceCtorEq,happ_eq,upds_nil,upds_cons,List.map_nil,List.append_nil,hlo]
   refine dops_off rfl (by kernel_rfl) ?_;refine dops_off rfl (by kernel_rfl) ?_;refine dops_off rfl (by kernel_rfl) ?_;refine dops_off rfl (by kernel_rfl) ?_
   refine dops_op rfl rfl rfl rfl (by kernel_rfl) ?_
   simp only [seval,push_cast,↓reduceIte,↓bP_some,↓aP_true,reduceCtorEq,happ_eq,upds_nil,upds_cons,List.map_nil,List.append_nil]
   refine dops_iaR (j:=j) (a:=4) (m:=B.length) rfl rfl hj (by kernel_rfl) ?_
   refine dops_stR (j:=j) (rows:=X1.map brow) (u:=.bool false) rfl rfl rfl rfl rfl (by rw [List.getElem?_map,hg1];rfl) rfl (by kernel_rfl) ?_
   refine dops_iaR (j:=j) (a:=6) (m:=B.length) rfl rfl hj (by kernel_rfl) ?_
   refine dops_stR (j:=j) (rows:=X2.map brow) (u:=.bool false) rfl rfl rfl rfl rfl (by rw [List.getElem?_map,hg2];rfl) rfl (by kernel_rfl) ?_
   refine dops_nil ?_
   refine Wf0 (Q2 @brow_set' hw) ?_
   exact qR_n rfl rfl trivial
 ·intro _
  rw [mkL_n,mkL_n]
  have hm1:(B.map fun b=>decide (hi≤b)).length=B.length:=List.length_map ..
  have hm2:(B.map fun b=>decide (lo≤b)&&decide (b < hi)).length=B.length:=List.length_map ..
  generalize (B.map fun b=>decide (hi≤b))=M0 at *
  generalize (B.map fun b=>decide (lo≤b)&&decide (b < hi))=D0 at *
  unfold rdH ctC nilV
  refine Wn0 ?_
  have hBw:B.length=c.cands.length*wideF (kindR c.rule) c.cands.length:=hBn
  have key:=read_dec hL (k2:=k2) (hm1.trans hBw) (hm2.trans hBw) hc1 hc2 hwl hwp hs2 hd hres
  unfold rH at key
  rw [←hBw] at key
  exact wShift [some 3,some 4,some 5,some 6] [] rfl rfl (sh_c rfl (sh_c (sh_b closed_brw rfl) (sh_c rfl (sh_c (sh_b closed_brw rfl) sh_n)))) key
theorem read_v {c:Ct} {s:Nat} {k:Option Nat} {lo hi skips:Int} {s':Nat} {B:List Int} {k':Option Nat} {s2:Nat} {ds:List (Int×Bool)} {k2:Option Nat} (hs:s=1∨c.cands=[]) (hl:c.cands.length < 4611686018427387904) (hr:c.rule < 256) (hs':s'=1∨B=[]) (hB:B.length < 4611686018427387904) (hs2:s2=2∨ds=[]) (hd:ds.length < 4611686018427387904) :
    VFn L 147 [.agg (ctC c s k),.agg [.int .u8 lo,.int .u8 hi,.int .i64 skips],.agg [tl urow s' B k'],tl drow s2 ds k2] (.tup [.agg (rgC (readF c lo hi skips B ds).1),.int .i64 (readF c lo hi skips B ds).2]):=by
 have kc:=shCheck_v hL (k:=k) (k':=k') hs hl hr hs' hB
 by_cases he:shCheck c B=0
 ·by_cases hb:badP lo hi skips
  ·rw [he] at kc
   rw [show readF c lo hi skips B ds=(rg0,2) by unfold readF;rw [if_neg (by omega),if_pos hb]]
   refine VFn.start (F:=T147.1) (by rw [hL];rfl) rfl rfl (closed_rgV _ _) ?_
   unfold ctC at kc ⊢
   unfold badP at hb
   by_cases h1:lo < 1
   ·refine Wf1 h1 kc ?_
    exact FnQ.ret rfl rfl
   ·by_cases h2:hi < lo
    ·refine Wf1 (Q2 h1 h2) kc ?_
     exact FnQ.ret rfl rfl
    ·by_cases h3:100 < hi
     ·refine Wf1 (Q3 h1 h2 h3) kc ?_
      exact FnQ.ret rfl rfl
     ·by_cases h4:skips < 0
      ·refine Wf1 (Q4 h1 h2 h3 h4) kc ?_
       exact FnQ.ret rfl rfl
      ·have h5:10 < skips:=by omega
       refine Wf1 (Q5 h1 h2 h3 h4 h5) kc ?_
       exact FnQ.ret rfl rfl
  ·by_cases h6:B.length < ds.length
   ·rw [he] at kc
    rw [show readF c lo hi skips B ds=(rg0,4) by unfold readF;rw [if_neg (by omega),if_neg hb,if_pos h6]]
    refine VFn.start (F:=T147.1) (by rw [hL];rfl) rfl rfl (closed_rgV _ _) ?_
    unfold ctC at kc ⊢
    unfold badP at hb
    have h1:¬lo < 1:=by omega
    have h2:¬hi < lo:=by omega
    have h3:¬100 < hi:=by omega
    have h4:¬skips < 0:=by omega
    have h5:¬10 < skips:=by omega
    refine Wf1 (Q5 h1 h2 h3 h4 (Q2 h5 (show (B.length:Int) < ds.length by omega))) kc ?_
    exact FnQ.ret rfl rfl
   ·have hck:checkC c=0:=by
      unfold shCheck at he
      by_cases h:checkC c=0
      ·exact h
      ·rw [if_neg h] at he;exact he
    exact read_ok hL hs hl hr hs' hB hs2 hd he hb h6 hck
 ·rw [show readF c lo hi skips B ds=(rg0,shCheck c B) by unfold readF;rw [if_pos he]]
  refine VFn.start (F:=T147.1) (by rw [hL];rfl) rfl rfl (closed_rgV _ _) ?_
  unfold ctC at kc ⊢
  refine Wf1 he kc ?_
  exact FnQ.ret rfl rfl
end Go.Proofs.YtigdhgbkgfagiaaGreat
namespace Go.Proofs.YtigdhgbkgfagiaaGreat
structure Mp (β:Type) where
 es:List (List UInt8×β)
 bs:List Nat
 clk:Nat
def mp0 {β:Type}:Mp β:=⟨[],[],0⟩
def entS {β:Type} (g:β→V) (p:List UInt8×β):V×V:=(.str p.1,g p.2)
def mapB {β:Type} (g:β→V) (m:Mp β):Blk:=.map (m.es.map (entS g)) m.bs m.clk
def idxS {β:Type} (k:List UInt8):List (List UInt8×β)→Nat→Option Nat
 | [],_=>none
 | e::r,i=>if k == e.1 then some i else idxS k r (i+1)
theorem idxS_lt {β:Type} {k:List UInt8}:∀{es:List (List UInt8×β)} {j i:Nat},idxS k es j=some i→j≤i∧∃p,es[i - j]?=some p∧p.1=k
 | [],j,i,h=>by cases h
 | e::r,j,i,h=>by
  unfold idxS at h
  cases hk:(k == e.1) with
  | true=>
   rw [hk,if_pos rfl] at h
   cases h
   exact ⟨Nat.le_refl _,e,by rw [Nat.sub_self];rfl,(eq_of_beq hk).symm⟩
  | false=>
   rw [hk,if_neg (by simp)] at h
   obtain ⟨h1,p,h2,h3⟩:=idxS_lt h
   refine ⟨by omega,p,?_,h3⟩
   rw [show i - j=(i - (j+1))+1 by omega]
   exact h2
theorem findK_idx {β:Type} {g:β→V} {k:List UInt8}:∀{es:List (List UInt8×β)} {i:Nat},findK 1 (.str k) (es.map (entS g)) i=some (idxS k es i)
 | [],_=>rfl
 | p::m,i=>by
  rw [List.map_cons,findK,show sameK 1 (.str k) (entS g p).1=some (k == p.1) from rfl]
  unfold idxS
  cases (k == p.1) with
  | true=>rfl
  | false=>exact findK_idx
def Mp.get {β:Type} (m:Mp β) (k:List UInt8):Option β:=(idxS k m.es 0).bind fun i=>(m.es[i]?).map (·.2)
def Mp.has {β:Type} (m:Mp β) (k:List UInt8):Bool:=(idxS k m.es 0).isSome
def Mp.set {β:Type} (m:Mp β) (k:List UInt8) (x:β):Mp β:=
 match idxS k m.es 0 with
 | some i=>⟨m.es.set i (k,x),m.bs,m.clk⟩
 | none=>⟨m.es++[(k,x)],m.bs++[m.clk],m.clk+1⟩
def Mp.del {β:Type} (m:Mp β) (k:List UInt8):Mp β:=
 match idxS k m.es 0 with
 | some i=>⟨m.es.eraseIdx i,m.bs.eraseIdx i,m.clk⟩
 | none=>m
structure MpOk {β:Type} (m:Mp β):Prop where
 len:m.bs.length=m.es.length
 nd:m.bs.Nodup
 lt:∀b∈m.bs,b < m.clk
theorem mpOk0 {β:Type}:MpOk (mp0:Mp β):=⟨rfl,List.nodup_nil,fun _ h=>by cases h⟩
theorem MpOk.set {β:Type} {m:Mp β} (h:MpOk m) (k:List UInt8) (x:β):MpOk (m.set k x):=by
 unfold Mp.set
 split
 ·exact ⟨by rw [List.length_set];exact h.len,h.nd,h.lt⟩
 ·refine ⟨by simp [h.len],?_,?_⟩
  ·refine List.nodup_append.2 ⟨h.nd,by simp,?_⟩
   intro a ha b hb
   have:=h.lt a ha
   have:b=m.clk:=by simpa using hb
   omega
  ·intro b hb
   rcases List.mem_append.1 hb with hb|hb
   ·have:=h.lt b hb;show b < m.clk+1;omega
   ·have:b=m.clk:=by simpa using hb
    show b < m.clk+1;omega
theorem MpOk.del {β:Type} {m:Mp β} (h:MpOk m) (k:List UInt8):MpOk (m.del k):=by
 unfold Mp.del
 split
 ·rename_i i hi
  exact ⟨by rw [List.length_eraseIdx,List.length_eraseIdx,h.len],h.nd.sublist (List.eraseIdx_sublist ..),fun b hb=>h.lt b (List.mem_of_mem_eraseIdx hb)⟩
 ·exact h
theorem mapB_ren {β:Type} {g:β→V} (hg:∀x,(g x).closed=true) {m:Mp β} {σ:Nat→Sg}:Blk.ren σ (mapB g m)=mapB g m:=by
 unfold mapB
 show Blk.map ((m.es.map (entS g)).map fun p=>(p.1.ren σ,p.2.ren σ)) m.bs m.clk=_
 rw [List.map_map]
 congr 1
 refine List.map_congr_left fun p _=>?_
 show ((V.str p.1).ren σ,(g p.2).ren σ)=_
 rw [V.ren_closed σ (hg p.2)];rfl
def mgB (b:Option Blk) (a:Nat) (ok:Bool) (z:V) (k:List UInt8):Option Eff:=
 match b with
 | some (.map es bs clk)=>(findK 1 (.str k) es 0).bind fun r=>some { v:=if ok then .tup [pickV es z r,.bool r.isSome] else pickV es z r,need:=[a] }
 | _=>none
def msB (b:Option Blk) (a:Nat) (k:List UInt8) (x:V):Option Eff:=
 match b with
 | some (.map es bs clk)=>(findK 1 (.str k) es 0).bind fun r=>some { v:=.tup [],need:=[a],upd:=[(a,some (match r with|some i=>.map (es.set i (.str k,x)) bs clk|none=>.map (es++[(.str k,x)]) (bs++[clk]) (clk+1)))] }
 | _=>none
def mdB (b:Option Blk) (a:Nat) (k:List UInt8):Option Eff:=
 match b with
 | some (.map es bs clk)=>(findK 1 (.str k) es 0).bind fun r=>some { v:=.tup [],need:=[a],upd:=[(a,some (match r with|some i=>.map (es.eraseIdx i) (bs.eraseIdx i) clk|none=>.map es bs clk))] }
 | _=>none
def mlB (b:Option Blk):Option V:=
 match b with
 | some (.map es _ _)=>some (.int .i64 es.length)
 | _=>none
section
variable {H:Heap} {a:Nat} {z x:V} {k:List UInt8} {ok:Bool} {β:Type} {g:β→V} {m:Mp β}
theorem shG0_map {es:List (V×V)} {bs:List Nat} {clk:Nat} (h:H.get a=some (.map es bs clk)):shG 0 H.get a=some (.map es bs clk):=by unfold shG;rw [h];rfl
theorem shape0 (b:Option Blk):(∃es bs clk,b=some (.map es bs clk)∧b.map (Blk.shape 0)=some (.map es bs clk))∨((∀es bs clk,b≠some (.map es bs clk))∧∀es bs clk,b.map (Blk.shape 0)≠some (.map es bs clk)):=by
 cases b with
 | none=>exact .inr ⟨(fun _ _ _ h=>by cases h),(fun _ _ _ h=>by cases h)⟩
 | some b=>
  cases b with
  | map es bs clk=>exact .inl ⟨es,bs,clk,rfl,rfl⟩
  | arr s r=>
   refine .inr ⟨(fun _ _ _ h=>by cases h),(fun _ _ _ h=>?_)⟩
   simp only [Option.map_some,Blk.shape] at h
   split at h <;> cases h
  | _=>exact .inr ⟨(fun _ _ _ h=>by cases h),(fun _ _ _ h=>by cases h)⟩
theorem mgetV_T:mgetV (shG 0 H.get) 1 z ok (.mapp a) (.str k)=mgB (H.get a) a ok z k:=by
 unfold mgetV mapOf
 dsimp only
 rw [if_pos (show keyV 1 (V.str k)=true from rfl)]
 rw [show shG 0 H.get a=(H.get a).map (Blk.shape 0) from rfl]
 rcases shape0 (H.get a) with ⟨es,bs,clk,h1,h2⟩|⟨h1,h2⟩
 ·rw [h1];rfl
 ·unfold mgB
  repeat' split
  all_goals (first|(rename_i h;exact absurd h (h1 _ _ _))|(rename_i h;exact absurd h (h2 _ _ _))|rfl|exact absurd ‹Option.map (Blk.shape 0) (H.get a)=some _› (h2 _ _ _))
theorem msetV_T (hx:x.isVal=true):msetV (shG 0 H.get) 1 (.mapp a) (.str k) x=msB (H.get a) a k x:=by
 unfold msetV
 dsimp only
 rw [hx]
 rw [show shG 0 H.get a=(H.get a).map (Blk.shape 0) from rfl]
 rcases shape0 (H.get a) with ⟨es,bs,clk,h1,h2⟩|⟨h1,h2⟩
 ·rw [h1];rfl
 ·unfold msB
  repeat' split
  all_goals (first|(rename_i h;exact absurd h (h1 _ _ _))|(rename_i h;exact absurd h (h2 _ _ _))|rfl|exact absurd ‹Option.map (Blk.shape 0) (H.get a)=some _› (h2 _ _ _))
theorem msetV_b {y:Bool}:msetV (shG 0 H.get) 1 (.mapp a) (.str k) (.bool y)=msB (H.get a) a k (.bool y):=msetV_T rfl
theorem msetV_i {y:Int} {t:IntKind}:msetV (shG 0 H.get) 1 (.mapp a) (.str k) (.int t y)=msB (H.get a) a k (.int t y):=msetV_T rfl
theorem mdelV_T:mdelV (shG 0 H.get) 1 (.mapp a) (.str k)=mdB (H.get a) a k:=by
 unfold mdelV
 dsimp only
 rw [show shG 0 H.get a=(H.get a).map (Blk.shape 0) from rfl]
 rcases shape0 (H.get a) with ⟨es,bs,clk,h1,h2⟩|⟨h1,h2⟩
 ·rw [h1];rfl
 ·unfold mdB
  repeat' split
  all_goals (first|(rename_i h;exact absurd h (h1 _ _ _))|(rename_i h;exact absurd h (h2 _ _ _))|rfl|exact absurd ‹Option.map (Blk.shape 0) (H.get a)=some _› (h2 _ _ _))
theorem mlenQ_T:mlenQ H.get (.mapp a)=mlB (H.get a):=by
 unfold mlenQ mapOf
 dsimp only
 rw [show shG 0 H.get a=(H.get a).map (Blk.shape 0) from rfl]
 rcases shape0 (H.get a) with ⟨es,bs,clk,h1,h2⟩|⟨h1,h2⟩
 ·rw [h1];rfl
 ·unfold mlB
  repeat' split
  all_goals (first|(rename_i h;exact absurd h (h1 _ _ _))|(rename_i h;exact absurd h (h2 _ _ _))|rfl|exact absurd ‹Option.map (Blk.shape 0) (H.get a)=some _› (h2 _ _ _))
theorem pickV_map {r:Option Nat}:pickV (m.es.map (entS g)) z r=((r.bind fun i=>(m.es[i]?).map (·.2)).map g).getD z:=by
 cases r with
 | none=>rfl
 | some i=>
  show (((m.es.map (entS g))[i]?).map (·.2)).getD z=_
  rw [List.getElem?_map,Option.bind_some]
  cases m.es[i]? <;> rfl
theorem mgB_map:mgB (some (mapB g m)) a false z k=some { v:=((m.get k).map g).getD z,need:=[a] }:=by
 show (findK 1 (.str k) (m.es.map (entS g)) 0).bind _=_
 rw [findK_idx,Option.bind_some,pickV_map];rfl
theorem mgB_map2:mgB (some (mapB g m)) a true z k=some { v:=.tup [((m.get k).map g).getD z,.bool (m.has k)],need:=[a] }:=by
 show (findK 1 (.str k) (m.es.map (entS g)) 0).bind _=_
 rw [findK_idx,Option.bind_some,pickV_map];rfl
theorem mgB_b {m:Mp Bool} {y:Bool}:mgB (some (mapB V.bool m)) a false (.bool y) k=some { v:=.bool ((m.get k).getD y),need:=[a] }:=by
 rw [mgB_map]
 cases m.get k <;> rfl
theorem mgB_i {m:Mp Int} {y:Int}:mgB (some (mapB (V.int .i64) m)) a true (.int .i64 y) k=some { v:=.tup [.int .i64 ((m.get k).getD y),.bool (m.has k)],need:=[a] }:=by
 rw [mgB_map2]
 cases m.get k <;> rfl
theorem mlB_map:mlB (some (mapB g m))=some (.int .i64 m.es.length):=by
 show some (V.int .i64 (m.es.map (entS g)).length)=_
 rw [List.length_map]
theorem msB_map {y:β}:msB (some (mapB g m)) a k (g y)=some { v:=.tup [],need:=[a],upd:=[(a,some (mapB g (m.set k y)))] }:=by
 show (findK 1 (.str k) (m.es.map (entS g)) 0).bind _=_
 rw [findK_idx,Option.bind_some]
 unfold Mp.set mapB
 cases h:idxS k m.es 0 with
 | none=>dsimp only;rw [List.map_append];rfl
 | some i=>dsimp only;rw [List.map_set];rfl
theorem msB_b {m:Mp Bool} {y:Bool}:msB (some (mapB V.bool m)) a k (.bool y)=some { v:=.tup [],need:=[a],upd:=[(a,some (mapB V.bool (m.set k y)))] }:=msB_map
theorem msB_i {m:Mp Int} {y:Int}:msB (some (mapB (V.int .i64) m)) a k (.int .i64 y)=some { v:=.tup [],need:=[a],upd:=[(a,some (mapB (V.int .i64) (m.set k y)))] }:=msB_map
theorem mdB_map:mdB (some (mapB g m)) a k=some { v:=.tup [],need:=[a],upd:=[(a,some (mapB g (m.del k)))] }:=by
 show (findK 1 (.str k) (m.es.map (entS g)) 0).bind _=_
 rw [findK_idx,Option.bind_some]
 unfold Mp.del mapB
 cases h:idxS k m.es 0 with
 | none=>rfl
 | some i=>dsimp only;rw [map_eraseIdx']
where map_eraseIdx' {α γ:Type} {f:α→γ}:∀{l:List α} {i:Nat},(l.map f).eraseIdx i=(l.eraseIdx i).map f
 | [],_=>rfl
 | _::_,0=>rfl
 | x::l,i+1=>congrArg (f x::·) map_eraseIdx'
theorem findN_at {b:Nat}:∀{bs:List Nat} {i j:Nat},bs.Nodup→bs[i]?=some b→findN b bs j=some (j+i)
 | [],i,j,_,h=>by simp at h
 | x::r,0,j,hn,h=>by
  have:x=b:=by simpa using h
  subst this
  unfold findN
  rw [Nat.beq_refl];rfl
 | x::r,i+1,j,hn,h=>by
  have h':r[i]?=some b:=by simpa using h
  have hx:x≠b:=fun e=>by
   subst e
   exact (List.nodup_cons.1 hn).1 (List.mem_of_getElem? h')
  unfold findN
  rw [show Nat.beq x b=false by
   cases e:Nat.beq x b with
   | false=>rfl
   | true=>exact absurd (Nat.eq_of_beq_eq_true e) hx]
  rw [cond_false,findN_at (List.nodup_cons.1 hn).2 h']
  congr 1;omega
def Mp.ent1 (m:Mp Bool) (k:List UInt8):Mp Bool×Nat×Bool:=
 match idxS k m.es 0 with
 | some i=>(⟨m.es.set i (k,(m.get k).getD false),m.bs,m.clk⟩,(m.bs[i]?).getD 0,(m.get k).getD false)
 | none=>(⟨m.es++[(k,false)],m.bs++[m.clk],m.clk+1⟩,m.clk,false)
theorem mapent_map {m:Mp Bool} (h:H.get a=some (mapB V.bool m)):mapentV (shG 0 H.get) 1 (.bool false) (.mapp a) (.str k)=some { v:=.tup [.bool (m.ent1 k).2.2,.int .i64 ((m.ent1 k).2.1:Nat)],need:=[a],upd:=[(a,some (mapB V.bool (m.ent1 k).1))] }:=by
 have h':=shG0_map (H:=H) (a:=a) h
 unfold mapentV
 dsimp only
 rw [h']
 show (findK 1 (.str k) (m.es.map (entS V.bool)) 0).bind _=_
 rw [findK_idx,Option.bind_some]
 unfold Mp.ent1 mapB
 cases hi:idxS k m.es 0 with
 | none=>dsimp only;rw [List.map_append];rfl
 | some i=>
  have hp:pickV (m.es.map (entS V.bool)) (.bool false) (some i)=.bool ((m.get k).getD false):=by
   rw [pickV_map,←hi]
   show ((m.get k).map V.bool).getD (.bool false)=_
   cases m.get k <;> rfl
  dsimp only
  rw [hp,List.map_set];rfl
theorem entst_map {m:Mp Bool} (hm:MpOk m) (h:H.get a=some (mapB V.bool (m.ent1 k).1)):entstoreV (shG 0 H.get) (.mapp a) (.int .i64 ((m.ent1 k).2.1:Nat)) (.bool true)=some { v:=.tup [],need:=[a],upd:=[(a,some (mapB V.bool (m.set k true)))] }:=by
 have h':=shG0_map (H:=H) (a:=a) h
 unfold entstoreV
 dsimp only
 rw [h']
 dsimp only
 rw [if_pos ⟨by omega,rfl⟩]
 unfold Mp.ent1 Mp.set mapB
 cases hi:idxS k m.es 0 with
 | none=>
  dsimp only
  have hnd:(m.bs++[m.clk]).Nodup:=by
   refine List.nodup_append.2 ⟨hm.nd,by simp,?_⟩
   intro a ha b hb
   have:=hm.lt a ha
   have:b=m.clk:=by simpa using hb
   omega
  rw [Int.toNat_natCast,findN_at (i:=m.bs.length) hnd (by simp),Nat.zero_add,Option.bind_some,hm.len]
  rw [List.getElem?_map,List.getElem?_append_right (Nat.le_refl _),Nat.sub_self]
  simp [entS]
 | some i=>
  dsimp only
  obtain ⟨-,p,hp,rfl⟩:=idxS_lt hi
  rw [Nat.sub_zero] at hp
  have hlt:i < m.es.length:=(List.getElem?_eq_some_iff.1 hp).1
  obtain ⟨b,hb⟩:∃b,m.bs[i]?=some b:=⟨_,List.getElem?_eq_getElem (by rw [hm.len];exact hlt)⟩
  rw [hb,Option.getD_some,Int.toNat_natCast,findN_at hm.nd hb,Nat.zero_add,Option.bind_some]
  rw [List.getElem?_map,List.getElem?_set_self hlt,Option.map_some,Option.bind_some]
  rw [List.map_set,List.map_set,List.set_set];rfl
end
attribute [push_cast] mgetV_T msetV_b msetV_i mdelV_T mlenQ_T mgB_b mgB_i mlB_map msB_b msB_i mdB_map
def namedS (s:List UInt8):Bool:=!oddS s
variable {L:Lib} (hL:L.T=tab.get)
include hL
theorem named_v {s:List UInt8} (hs:s.length < 4611686018427387904):VFn L 146 [.str s] (.bool (namedS s)):=by
 refine VFn.start (F:=T146.1) (by rw [hL];rfl) rfl rfl rfl ?_
 refine Wn0 ?_
 refine wCnt rfl 6 s.length (fun _=>[]) (fun j=>(s.take j).any badB=false) rfl (by simp) ?_ ?_
 ·intro j hj hI
  obtain ⟨b,hb,hm⟩:=get_of hj
  have hw:=wrap_succ (show j < 9223372036854775807 by omega)
  by_cases h1:b.toNat < 33
  ·have hbad:namedS s=false:=by
     unfold namedS oddS
     rw [show s.any badB=true from List.any_eq_true.2 ⟨b,hm,by unfold badB;exact decide_eq_true (.inl h1)⟩]
     simp
   rw [hbad]
   refine Wf0 (Q3 hj hb (show (b.toNat:Int) < 33 by omega)) ?_
   exact FnQ.ret rfl rfl
  ·by_cases h2:126 < b.toNat
   ·have hbad:namedS s=false:=by
      unfold namedS oddS
      rw [show s.any badB=true from List.any_eq_true.2 ⟨b,hm,by unfold badB;exact decide_eq_true (.inr h2)⟩]
      simp
    rw [hbad]
    refine Wf0 (Q4 hj hb (show ¬(b.toNat:Int) < 33 by omega) (show (126:Int) < b.toNat by omega)) ?_
    exact FnQ.ret rfl rfl
   ·refine Wf0 (Q5 hj hb (show ¬(b.toNat:Int) < 33 by omega) (show ¬(126:Int) < b.toNat by omega) hw) ?_
    refine qR_n rfl rfl ?_
    rw [take_snoc hb,List.any_append,hI]
    simp [badB,h1,h2]
 ·intro hI
  rw [List.take_of_length_le (Nat.le_refl _)] at hI
  by_cases h1:s=[]
  ·subst h1
   rw [show namedS []=false from rfl]
   refine Wf0 (Q2 @snqV (show (!(([]:List UInt8) == []))=false from rfl)) ?_
   exact FnQ.ret rfl rfl
  ·have hne:(!(s == []))=true:=by simp [h1]
   by_cases h2:40 < s.length
   ·have hbad:namedS s=false:=by
      unfold namedS oddS
      rw [decide_eq_true (.inr h2)];rfl
    rw [hbad]
    refine Wf0 (Q3 @snqV hne (show ¬(s.length:Int)≤40 by omega)) ?_
    exact FnQ.ret rfl rfl
   ·have hgood:namedS s=true:=by
      unfold namedS oddS
      rw [hI,decide_eq_false (by simp [h1];omega)];rfl
    rw [hgood]
    refine Wf0 (Q3 @snqV hne (show (s.length:Int)≤40 by omega)) ?_
    exact FnQ.ret rfl rfl
end Go.Proofs.YtigdhgbkgfagiaaGreat
