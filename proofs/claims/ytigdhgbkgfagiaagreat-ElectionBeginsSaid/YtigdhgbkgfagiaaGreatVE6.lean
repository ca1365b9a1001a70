/- Outcomes in bytes: numbers as bytes, lengths, walked. · Outcomes in bytes: fields joined, by the program and by the reference, walked. · Outcomes in bytes: by the program, walked. -/
import Derived.Test.YtigdhgbkgfagiaaGreatVE2
import Derived.Test.YtigdhgbkgfagiaaGreatVE4
import Derived.Test.YtigdhgbkgfagiaaGreatVE3
set_option maxRecDepth 100000
set_option maxHeartbeats 4000000
set_option linter.unusedVariables false
set_option linter.unusedSimpArgs false
namespace Go.Proofs.YtigdhgbkgfagiaaGreat
def u8i (x:Int):UInt8:=UInt8.ofNat (x % 256).toNat
def txt (l:List Int):List UInt8:=l.map u8i
def odI (x:Int):Bool:=decide (x < 0)||decide (10≤x)
def ln2 (n:Nat):List UInt8:=[u8i ((n / 256:Nat):Int),u8i (n:Int)]
def fldB (l:List UInt8):List UInt8:=ln2 l.length++l
def rtx (l:List Int):List UInt8:=if l.any odI then [] else txt l
theorem u8i_eq (x:Int):((u8i x).toNat:Int)=IntKind.u8.wrap x:=by
 unfold u8i
 rw [UInt8.toNat_ofNat']
 have h:IntKind.u8.wrap x=x % 256:=by simp [IntKind.wrap,IntKind.signed,IntKind.bits]
 rw [h]
 omega
theorem byrow_u8i (x:Int):byrow (u8i x)=[.int .u8 (IntKind.u8.wrap x)]:=by rw [byrow_eq,u8i_eq]
theorem txt_len {l:List Int}:(txt l).length=l.length:=List.length_map _
theorem txt_snoc {l:List Int} {j:Nat} {x:Int} (h:l[j]?=some x):txt (l.take (j+1))=txt (l.take j)++[u8i x]:=by rw [take_snoc h];simp [txt]
theorem acc_ren {α:Type} {σ:Nat→Sg} {a b n:Nat} {l:List α} (h:σ a=.to b):V.ren σ (accV a n l)=accV b n l:=by
 unfold accV
 split
 ·rfl
 ·simp [V.ren,h]
theorem acc_blk {α:Type} {f:α→List V} (hf:∀x,(f x).all V.closed=true) {n:Nat} {σ:Nat→Sg} {l:List α}:(accB f n l).map (Blk.ren σ)=accB f n l:=by
 unfold accB
 split
 ·rfl
 ·rw [Option.map_some,ren_tl hf]
theorem acc_frz {α:Type} {f:α→List V} (hf:∀x,(f x).all V.closed=true) {n:Nat} (hn:0 < n) {H:Heap} {src:List (Option Nat)} {fz:List Nat} {a:Nat} {l:List α} (hp:posIn src a 0=none) (ha:fz.contains a=true) (h:H.get a=accB f n l):V.ren (sgOf H src fz) (accV a n l)=nlv f n (nzq l):=by
 by_cases hl:l=[]
 ·subst hl;rfl
 ·rw [accB_cons hl] at h
  rw [accV_cons hl,show nzq l=some l from if_neg hl,nlv_full hl]
  exact frz_refS' hf hn hp ha h
section
variable {L:Lib} {i:AI} {l:List AI} {rs:List Rec} {ms:List Nat} {K:Env→Heap→Prop} {E:Env} {H:Heap}
theorem AFn.lendM {k:Nat} {vs vs':List V} {r:V} {h':Heap} (bor:List Nat) (hvs:vs.map (V.ren (sgOf H [] bor))=vs') (hf:MFn L k vs' r h') (ho:outOk bor r h'=true):AFn L (.fn k) vs H (fun r' H'=>r'=r.ren (upσ H.length)∧H'=H++h'.map (Option.map (Blk.ren (upσ H.length)))):=by
 refine AFn.frame (k':=.fn k) [] bor rfl rfl rfl ?_
 show AFn L (.fn k) (vs.map (V.ren (sgOf H [] bor))) [] _
 rw [hvs]
 refine AFn.mono hf.2 ?_
 rintro r' H' ⟨rfl,rfl⟩
 refine ⟨ho,by rw [outσ_nil],?_⟩
 simp [Heap.back,Heap.upds,outσ_nil]
theorem dops_lendM {f:Nat} {c:ACallee} {args:List AOpd} {vs vs':List V} {r:V} {h':Heap} (bor:List Nat) (hg:i.goes E.get=some true) (hop:i.op=.call c args) (hv:callee L.G E.get c args=some (.fn f,vs)) (hvs:vs.map (V.ren (sgOf H [] bor))=vs') (hf:MFn L f vs' r h') (ho:outOk bor r h'=true)
    (hi:indB (ancM ms i.anc) { dst:=i.dst,looks:=i.looks,v:=some (r.ren (upσ H.length)),need:=bor,eff:=effB H.length [] [] h',slot:=H.length,k:=h'.length } 0 rs=true)
    (k:dopsP L l (rs++[{ dst:=i.dst,looks:=i.looks,v:=some (r.ren (upσ H.length)),need:=bor,eff:=effB H.length [] [] h',slot:=H.length,k:=h'.length }]) (ms++[ancM ms i.anc]) K (E.put i.dst (r.ren (upσ H.length))) (H++h'.map (Option.map (Blk.ren (upσ H.length))))):dopsP L (i::l) rs ms K E H:=by
 unfold dopsP dstepP
 rw [hg]
 dsimp only
 rw [hop]
 dsimp only
 rw [hv]
 show FnD L (.fn f) vs H _
 refine ⟨[],bor,[],r,h',.fn f,rfl,rfl,rfl,?_,ho,Nat.zero_le _,fun i hi=>by simp at hi,?_⟩
 ·show AFn L (.fn f) (vs.map (V.ren (sgOf H [] bor))) [] _
  rw [hvs]
  exact hf.2
 ·rw [outσ_nil]
  have e2:H.back [] h'=H++h'.map (Option.map (Blk.ren (upσ H.length))):=by simp [Heap.back,Heap.upds,outσ_nil]
  rw [e2]
  exact ⟨hi,k⟩
end
variable {L:Lib} (hL:L.T=tab.get)
include hL
theorem ptext_m {s:Nat} {l:List Int} {c:Option Nat} (hs:s=1∨l=[]) (hl:l.length≤17592186044416):MFn L 31 [tl mrow s l c] (accV 0 1 (txt l)) [accB byrow 1 (txt l)]:=by
 refine ⟨rfl,AFn.of_body (F:=T31.1) (by rw [hL];rfl) rfl ?_⟩
 refine Wn0 ?_
 refine wPad [none] (H1:=[none]) rfl rfl rfl ?_
 refine wCntH rfl 7 l.length (fun j=>[(2,accV 0 1 (txt (l.take j)))]) (fun j=>[accB byrow 1 (txt (l.take j))]) (fun _=>True) rfl rfl trivial ?_ ?_
 ·intro j hj _
  obtain rfl:=size_of hs hj
  obtain ⟨x,hx,hm⟩:=get_of hj
  have hw:=wrap_succ (show j < 9223372036854775807 by omega)
  have hi:iaQ 1 (tl mrow 1 l c) j=some (.iptr 1 (l.map mrow) j 0):=iaQ_tl hj
  rw [txt_snoc hx]
  have hlen:(txt (l.take j)).length≤j:=by rw [txt_len];exact List.length_take_le ..
  generalize txt (l.take j)=A at *
  have hroom:(A.length+1)*1≤140737488355328:=by omega
  rw [accV_snoc,accB_snoc]
  have hr:A.map byrow++[[.int .u8 (IntKind.u8.wrap x)]]=(A++[u8i x]).map byrow:=by rw [List.map_append,←byrow_u8i];rfl
  by_cases hA:A=[]
  ·subst hA
   rw [accV_nil,accB_nil]
   refine Wf0 (Q4 hj hx hw hi) ?_
   exact qR_s [some 2] [] rfl rfl (sh_c (congrArg some (congrArg (fun r=>Blk.arr 1 r) (show [[V.int .u8 (IntKind.u8.wrap x)]]=[byrow (u8i x)] by rw [byrow_u8i]))) sh_n) trivial
  ·rw [accV_cons hA,accB_cons hA]
   refine Wf0 (Q5 hj hx hw hi hroom) ?_
   refine qR_s [some 2] [] rfl rfl (sh_c ?_ sh_n) trivial
   show some (Blk.ren _ (.arr 1 (A.map byrow++[[.int .u8 (IntKind.u8.wrap x)]])))=_
   rw [hr,ren_tl closed_byrow]
 ·intro _
  rw [take_allq]
  refine Wn0 ?_
  exact FnQ.at rfl ⟨rfl,rfl⟩
theorem rtext_m {s:Nat} {l:List Int} {c:Option Nat} (hs:s=1∨l=[]) (hl:l.length≤17592186044416):MFn L 35 [tl mrow s l c] (.tup [accV 0 1 (rtx l),.bool (!l.any odI)]) [accB byrow 1 (rtx l)]:=by
 refine ⟨rfl,AFn.of_body (F:=T35.1) (by rw [hL];rfl) rfl ?_⟩
 refine Wn0 ?_
 refine wPad [none] (H1:=[none]) rfl rfl rfl ?_
 refine wCntH rfl 5 l.length (fun j=>[(4,accV 0 1 (txt (l.take j)))]) (fun j=>[accB byrow 1 (txt (l.take j))]) (fun j=>(l.take j).any odI=false) rfl rfl (by simp) ?_ ?_
 ·intro j hj hI
  obtain rfl:=size_of hs hj
  obtain ⟨x,hx,hm⟩:=get_of hj
  have hw:=wrap_succ (show j < 9223372036854775807 by omega)
  have hi:iaQ 1 (tl mrow 1 l c) j=some (.iptr 1 (l.map mrow) j 0):=iaQ_tl hj
  have hjn:(j:Int) < (l.length:Int):=by omega
  rw [txt_snoc hx]
  have hlen:(txt (l.take j)).length≤j:=by rw [txt_len];exact List.length_take_le ..
  have hbad:odI x=true→rtx l=[]∧(!l.any odI)=false:=fun h=>by
   have:l.any odI=true:=List.any_eq_true.2 ⟨x,hm,h⟩
   exact ⟨if_pos this,by rw [this];rfl⟩
  generalize txt (l.take j)=A at *
  have hroom:(A.length+1)*1≤140737488355328:=by omega
  by_cases h1:x < 0
  ·obtain ⟨e1,e2⟩:=hbad (by simp [odI,h1])
   rw [e1,e2]
   refine Wf0 (Q5 hjn hx hw hi h1) ?_
   exact FnQ.sh [none] [] rfl rfl rfl (sh_c rfl sh_n) ⟨rfl,rfl⟩
  by_cases h2:10≤x
  ·obtain ⟨e1,e2⟩:=hbad (by simp [odI,h2])
   rw [e1,e2]
   refine Wf0 (Q5 hjn hx hw hi (Q2 h1 h2)) ?_
   exact FnQ.sh [none] [] rfl rfl rfl (sh_c rfl sh_n) ⟨rfl,rfl⟩
  have hI':(l.take (j+1)).any odI=false:=by rw [take_snoc hx,List.any_append,hI];simp [odI,h1,h2]
  rw [accV_snoc,accB_snoc]
  have hr:A.map byrow++[[.int .u8 (IntKind.u8.wrap x)]]=(A++[u8i x]).map byrow:=by rw [List.map_append,←byrow_u8i];rfl
  by_cases hA:A=[]
  ·subst hA
   rw [accV_nil,accB_nil]
   refine Wf0 (Q5 hjn hx hw hi (Q2 h1 h2)) ?_
   exact qR_s [some 2] [] rfl rfl (sh_c (congrArg some (congrArg (fun r=>Blk.arr 1 r) (show [[V.int .u8 (IntKind.u8.wrap x)]]=[byrow (u8i x)] by rw [byrow_u8i]))) sh_n) hI'
  ·rw [accV_cons hA,accB_cons hA]
   refine Wf0 (Q5 hjn hx hw hi (Q3 h1 h2 hroom)) ?_
   refine qR_s [some 2] [] rfl rfl (sh_c ?_ sh_n) hI'
   show some (Blk.ren _ (.arr 1 (A.map byrow++[[.int .u8 (IntKind.u8.wrap x)]])))=_
   rw [hr,ren_tl closed_byrow]
 ·intro hI
  rw [take_allq] at hI ⊢
  rw [show rtx l=txt l from if_neg (by rw [hI];simp),hI]
  refine Wn0 ?_
  exact FnQ.at rfl ⟨rfl,rfl⟩
theorem put_m {n:Nat}:MFn L 137 [.lst 0 [] (some 0),.int .u64 n,.int .i64 2] (.ref 0 1 0 2 none) [some (.arr 1 ((ln2 n).map byrow))]:=by
 have s1:binV .shr (.int .u64 (n:Int)) (.int .i64 8)=some (.int .u64 ((n / 256:Nat):Int)):=shr_i (s:=8) (by decide)
 have s2:binV .shr (.int .u64 (n:Int)) (.int .i64 0)=some (.int .u64 (n:Int)):=by have:=shr_i (k:=.u64) (j:=.i64) (x:=n) (s:=0) (by decide);simpa using this
 have w1:IntKind.i64.wrap 1=1:=rfl
 have w8:IntKind.i64.wrap 8=8:=rfl
 have w0:IntKind.i64.wrap 0=0:=rfl
 have m0:(8:Int)*1=8:=rfl
 have m1:(8:Int)*0=0:=rfl
 have m2:(1:Int) - 0=1:=rfl
 have m3:(1:Int) - 1=0:=rfl
 have e2:(ln2 n).map byrow=[[.int .u8 (IntKind.u8.wrap ((n / 256:Nat):Int))],[.int .u8 (IntKind.u8.wrap (n:Int))]]:=by simp [ln2,byrow_u8i]
 refine ⟨rfl,AFn.of_body (F:=T137.1) (by rw [hL];rfl) rfl ?_⟩
 rw [e2]
 generalize n / 256=n1 at *
 refine Wn0 ?_
 refine wRoll 3 rfl ?_
 refine Wf0 (Q5 s1 s2 w1 w8 (Q4 w0 m0 m1 (Q2 m2 m3))) ?_
 exact FnQ.sh [some 3] [] rfl rfl rfl (sh_c rfl sh_n) ⟨rfl,rfl⟩
theorem put_a {A:List UInt8} {n:Nat} (hA:A.length≤1000000) (hne:A≠[]):AFn L (.fn 137) [.ref 0 1 0 A.length none,.int .u64 n,.int .i64 2] [some (.arr 1 (A.map byrow))] (fun r H'=>r=.ref 1 1 0 (A.length+1+1) none∧H'=[none,some (.arr 1 ((A++ln2 n).map byrow))]):=by
 have s1:binV .shr (.int .u64 (n:Int)) (.int .i64 8)=some (.int .u64 ((n / 256:Nat):Int)):=shr_i (s:=8) (by decide)
 have s2:binV .shr (.int .u64 (n:Int)) (.int .i64 0)=some (.int .u64 (n:Int)):=by have:=shr_i (k:=.u64) (j:=.i64) (x:=n) (s:=0) (by decide);simpa using this
 have w1:IntKind.i64.wrap 1=1:=rfl
 have w8:IntKind.i64.wrap 8=8:=rfl
 have w0:IntKind.i64.wrap 0=0:=rfl
 have m0:(8:Int)*1=8:=rfl
 have m1:(8:Int)*0=0:=rfl
 have m2:(1:Int) - 0=1:=rfl
 have m3:(1:Int) - 1=0:=rfl
 have r1:(A.length+1)*1≤140737488355328:=by omega
 have r2:(A.length+1+1)*1≤140737488355328:=by omega
 have e2:(A++ln2 n).map byrow=A.map byrow++[[.int .u8 (IntKind.u8.wrap ((n / 256:Nat):Int))]]++[[.int .u8 (IntKind.u8.wrap (n:Int))]]:=by rw [List.map_append];simp [ln2,byrow_u8i]
 have hren:∀σ,Blk.ren σ (.arr 1 (A.map byrow++[[.int .u8 (IntKind.u8.wrap ((n / 256:Nat):Int))]]++[[.int .u8 (IntKind.u8.wrap (n:Int))]]))=.arr 1 (A.map byrow++[[.int .u8 (IntKind.u8.wrap ((n / 256:Nat):Int))]]++[[.int .u8 (IntKind.u8.wrap (n:Int))]]):=fun σ=>by
  have:=ren_tl closed_byrow (σ:=σ) (n:=1) (l:=A++ln2 n)
  rwa [e2] at this
 refine AFn.of_body (F:=T137.1) (by rw [hL];rfl) rfl ?_
 rw [e2]
 generalize n / 256=n1 at *
 have hl1:(A.map byrow++[[V.int .u8 (IntKind.u8.wrap (n1:Int))]]).length=A.length+1:=by simp
 refine Wn0 ?_
 refine wRoll 3 rfl ?_
 refine Wf0 (Q5 s1 s2 w1 w8 (Q5 w0 m0 m1 r1 (Q4 m2 m3 r2 hl1))) ?_
 exact FnQ.sh [some 0,some 4] [] rfl rfl rfl (sh_c rfl (sh_c (congrArg some (hren _)) sh_n)) ⟨rfl,rfl⟩
theorem clone_bb {o:Nl UInt8} (hl:o.l.length*1≤140737488355328):MFn L 138 [nlv byrow 1 o] (cvM 1 o) (chM byrow 1 o):=by
 refine ⟨by simp [V.closeds,closed_nlv],AFn.of_body (F:=T138.1) (by rw [hL];rfl) rfl ?_⟩
 cases o with
 | none=>
  refine Wf0 @nlv.eq_1 ?_
  exact FnQ.at rfl ⟨rfl,rfl⟩
 | some l=>
  by_cases hne:l=[]
  ·subst hne
   rw [nlv_hollow]
   refine Xf0 (Q2 @isnilQ_non @rowsOf_hollow) ?_
   exact FnQ.sh [some 0] [] rfl rfl rfl rfl ⟨rfl,rfl⟩
  ·have h1:¬l.length≤0:=fun e=>hne (List.length_eq_zero_iff.1 (Nat.le_zero.1 e))
   have h2:¬l.length=0:=fun e=>hne (List.length_eq_zero_iff.1 e)
   have h3:l.length*1≤140737488355328:=hl
   have h4:isnilQ 0 false (tl byrow 1 l none)=some (.bool false):=isnil_tlG hne
   rw [nlv_full hne]
   refine Wf0 (Q5 h1 h3 h4 @rowsOf_tlG (Q2 @Nat.zero_add @List.nil_append.{0})) ?_
   exact FnQ.sh [some 1] [] rfl rfl rfl (sh_c (sh_b closed_byrow rfl) sh_n) ⟨by simp only [cvM,h2,if_false];rfl,rfl⟩
def putV (A f:List UInt8):V:=if 16384 < A.length+2+f.length then .tup [.lst 0 [] (some 0),.int .i64 4] else .tup [nlv byrow 1 (nzq (A++fldB f)),.int .i64 0]
omit hL in
theorem nzq_l {α:Type} {l:List α}:(nzq l).l=l:=by unfold nzq;split <;> simp_all [Nl.l]
omit hL in
theorem nzq_ne {α:Type} {l:List α} (h:l≠[]):nzq l=some l:=if_neg h
omit hL in
theorem fld_ne {f A:List UInt8}:A++fldB f≠[]:=by simp [fldB,ln2]
theorem field_v {A f:List UInt8} (hA:A.length≤16384) (hf:f.length < 4611686018427387904):VFn L 76 [nlv byrow 1 (nzq A),nlv byrow 1 (nzq f)] (putV A f):=by
 have hA2:(nzq A).l=A:=nzq_l
 have hl:(nzq f).l=f:=nzq_l
 have w1:IntKind.i64.wrap ((A.length:Int)+2)=(A.length:Int)+2:=wrap_i64 (by omega) (by omega)
 have w2:IntKind.i64.wrap ((A.length:Int)+2+(f.length:Int))=(A.length:Int)+2+(f.length:Int):=wrap_i64 (by omega) (by omega)
 have w3:IntKind.u64.wrap (f.length:Int)=(f.length:Int):=wrap_u64 (by omega)
 refine VFn.start (F:=T76.1) (by rw [hL];rfl) rfl (by simp [V.closeds,closed_nlv]) (by unfold putV;split <;> simp [V.closed,V.closeds,closed_nlv]) ?_
 unfold putV
 by_cases h1:(65535:Int) < f.length
 ·have h2:16384 < A.length+2+f.length:=by omega
  rw [if_pos h2]
  refine Wf0 (Q3 hl hA2 h1) ?_
  exact FnQ.ret rfl rfl
 by_cases h2:(16384:Int) < (A.length:Int)+2+(f.length:Int)
 ·have h3:16384 < A.length+2+f.length:=by omega
  rw [if_pos h3]
  refine Wf0 (Q5 hl h1 h2 w1 (Q2 w2 hA2)) ?_
  exact FnQ.ret rfl rfl
 have h3:¬16384 < A.length+2+f.length:=by omega
 have hroom:(A.length+1+1+f.length)*1≤140737488355328:=by omega
 have hroom2:(2+f.length)*1≤140737488355328:=by omega
 have hl2:∀n,(ln2 n).length=2:=fun _=>rfl
 have hlA:(A++ln2 f.length).length=A.length+1+1:=by rw [List.length_append,hl2]
 have key:∀(a:Nat) (H:Heap) (B:List UInt8) (m:Nat),m=(B++fldB f).length→[a].contains a=true→posIn [] a 0=none→H.get a=some (.arr 1 ((B++fldB f).map byrow))→V.ren (sgOf H [] [a]) (.ref a 1 0 m none)=nlv byrow 1 (nzq (B++fldB f)):=fun a H B m hm h1 h2 h3=>by
  subst hm
  rw [nzq_ne fld_ne,nlv_full fld_ne]
  exact frz_refS' closed_byrow (by decide) h2 h1 h3
 rw [if_neg h3]
 refine Wf0 (Q5 hl h1 h2 w1 (Q3 w2 hA2 w3)) ?_
 by_cases hn:A=[]
 ·subst hn
  have kc:AFn L (.fn 138) [nlv byrow 1 (nzq [])] [] (fun r H'=>r=.lst 0 [] (some 0)∧H'=[]):=(clone_bb hL (o:=nzq []) (by decide)).2
  refine opsP_any rfl kc ?_
  rintro _ _ ⟨rfl,rfl⟩
  refine Wf0 (Q3 hl hA2 w3) ?_
  refine opsP_any rfl (put_m hL (n:=f.length)).2 ?_
  rintro _ _ ⟨rfl,rfl⟩
  refine Wf0 (Q4 hl @rows_by hroom2 hl2) ?_
  refine FnQ.frz [1] rfl (congrArg (fun v=>V.tup [v,V.int .i64 0]) (key 1 _ [] _ (by simp [fldB,hl2]) (by decide) rfl ?_))
  exact congrArg (fun r=>some (Blk.arr 1 r)) (List.map_append (f:=byrow)).symm
 ·rw [nzq_ne hn]
  refine opsP_any rfl (MFn.atF closed_byrow hn (clone_bb hL (o:=some A) (by show A.length*1≤_;omega)) _) ?_
  rintro _ _ ⟨rfl,rfl⟩
  refine Wf0 (Q2 hl w3) ?_
  refine opsP_any rfl (put_a hL (n:=f.length) (by omega) hn) ?_
  rintro _ _ ⟨rfl,rfl⟩
  refine Wf0 (Q4 hl @rows_by hroom hlA) ?_
  refine FnQ.frz [2] rfl (congrArg (fun v=>V.tup [v,V.int .i64 0]) (key 2 _ A _ (by simp [fldB,hl2];omega) (by decide) rfl ?_))
  show some (Blk.arr 1 ((A++ln2 f.length).map byrow++f.map byrow))=_
  rw [←List.map_append,List.append_assoc];rfl
end Go.Proofs.YtigdhgbkgfagiaaGreat
namespace Go.Proofs.YtigdhgbkgfagiaaGreat
def flrow (f:List UInt8):List V:=[nlv byrow 1 (nzq f)]
theorem flrow_eq (f:List UInt8):flrow f=[nlv byrow 1 (nzq f)]:=rfl
theorem closed_fl (f:List UInt8):(flrow f).all V.closed=true:=by simp [flrow,closed_nlv]
def joinB (l:List (List UInt8)):List UInt8:=l.flatMap fldB
def joinV (l:List (List UInt8)):V:=if 16384 < (joinB l).length then .tup [.lst 0 [] (some 0),.int .i64 4] else .tup [nlv byrow 1 (nzq (joinB l)),.int .i64 0]
theorem fld_len {f:List UInt8}:(fldB f).length=2+f.length:=by simp [fldB,ln2];omega
theorem join_snoc {l:List (List UInt8)} {j:Nat} {x:List UInt8} (h:l[j]?=some x):joinB (l.take (j+1))=joinB (l.take j)++fldB x:=by rw [take_snoc h];simp [joinB]
theorem join_le {l:List (List UInt8)} {j:Nat}:(joinB (l.take j)).length≤(joinB l).length:=by
 have:joinB l=joinB (l.take j)++joinB (l.drop j):=by unfold joinB;rw [←List.flatMap_append,List.take_append_drop]
 rw [this,List.length_append];omega
theorem wrap_u8m (n:Nat):IntKind.u8.wrap ((n % 256:Nat):Int)=IntKind.u8.wrap (n:Int):=by
 have h:∀x:Int,IntKind.u8.wrap x=x % 256:=fun x=>by simp [IntKind.wrap,IntKind.signed,IntKind.bits]
 rw [h,h]
 omega
theorem closed_joinV {l:List (List UInt8)}:(joinV l).closed=true:=by unfold joinV;split <;> simp [V.closed,V.closeds,closed_nlv]
variable {L:Lib} (hL:L.T=tab.get)
include hL
theorem join_v {s:Nat} {l:List (List UInt8)} {c:Option Nat} (hs':s=1∨l=[]) (ho:l.length < 4611686018427387904) (h:∀f∈l,f.length < 4611686018427387904):VFn L 34 [tl flrow s l c] (joinV l):=by
 refine VFn.start (F:=T34.1) (by rw [hL];rfl) rfl rfl closed_joinV ?_
 refine Wn0 ?_
 refine wCnt rfl 8 l.length (fun j=>[(2,nlv byrow 1 (nzq (joinB (l.take j))))]) (fun j=>(joinB (l.take j)).length≤16384) rfl (by simp [joinB]) ?_ ?_
 ·intro j hj hI
  obtain ⟨x,hx,hm⟩:=get_of hj
  obtain rfl:=size_of hs' hj
  have hjn:(j:Int) < (l.length:Int):=by omega
  have hi:iaQ 1 (tl flrow 1 l c) j=some (.iptr 1 (l.map flrow) j 0):=iaQ_tl hj
  have hw:=wrap_succ (show j < 9223372036854775807 by omega)
  have kf:=field_v hL (A:=joinB (l.take j)) (f:=x) hI (h x hm)
  unfold putV at kf
  have hs:=join_snoc hx
  have hle:=join_le (l:=l) (j:=j+1)
  rw [hs] at hle ⊢
  rw [List.length_append,fld_len] at *
  generalize joinB (l.take j)=A at *
  by_cases hb:16384 < A.length+2+x.length
  ·rw [if_pos hb] at kf
   rw [show joinV l=.tup [.lst 0 [] (some 0),.int .i64 4] from if_pos (by omega)]
   refine Wf1 (Q4 hi hjn hx @flrow_eq) kf ?_
   exact FnQ.ret rfl rfl
  ·rw [if_neg hb] at kf
   refine Wf1 (Q5 hi hjn hx @flrow_eq hw) kf ?_
   exact qR_n rfl rfl (by omega)
 ·intro hI
  rw [take_allq] at hI ⊢
  rw [show joinV l=.tup [nlv byrow 1 (nzq (joinB l)),.int .i64 0] from if_neg (by omega)]
  refine Wn0 ?_
  exact FnQ.ret rfl (by simp [V.closed,V.closeds,closed_nlv])
theorem digits_m {n:Nat} (hn:n < 4611686018427387904):MFn L 139 [.int .u64 n,.int .i64 2] (.ref 0 1 0 2 none) [some (.arr 1 ((ln2 n).map byrow))]:=by
 have s1:binV .rem (.int .u64 (n:Int)) (.int .u64 256)=some (.int .u64 ((n % 256:Nat):Int)):=rem_i (y:=256) (by decide)
 have q1:binV .quo (.int .u64 (n:Int)) (.int .u64 256)=some (.int .u64 ((n / 256:Nat):Int)):=quo_i (y:=256) (by decide) (by omega)
 have s2:binV .rem (.int .u64 ((n / 256:Nat):Int)) (.int .u64 256)=some (.int .u64 ((n / 256 % 256:Nat):Int)):=rem_i (y:=256) (by decide)
 have q2:binV .quo (.int .u64 ((n / 256:Nat):Int)) (.int .u64 256)=some (.int .u64 ((n / 256 / 256:Nat):Int)):=quo_i (y:=256) (by decide) (by omega)
 have e2:(ln2 n).map byrow=[[.int .u8 (IntKind.u8.wrap ((n / 256 % 256:Nat):Int))],[.int .u8 (IntKind.u8.wrap ((n % 256:Nat):Int))]]:=by rw [wrap_u8m,wrap_u8m];simp [ln2,byrow_u8i]
 refine ⟨rfl,AFn.of_body (F:=T139.1) (by rw [hL];rfl) rfl ?_⟩
 rw [e2]
 generalize n / 256 % 256=n3 at *
 generalize n / 256 / 256=n2 at *
 generalize n / 256=n1 at *
 generalize n % 256=n4 at *
 refine Wn0 ?_
 refine wRoll 3 rfl ?_
 have ho:over [[V.int .u8 (IntKind.u8.wrap (n4:Int))]] 1 []=[[V.int .u8 (IntKind.u8.wrap (n4:Int))]]:=rfl
 have w1:IntKind.i64.wrap 1=1:=rfl
 have w2:IntKind.i64.wrap 2=2:=rfl
 refine Wf0 (Q5 s1 q1 s2 q2 (Q3 ho w1 w2)) ?_
 exact FnQ.sh [some 2] [] rfl rfl rfl (sh_c rfl sh_n) ⟨rfl,rfl⟩
theorem fieldR_m {o:Nl UInt8} (h:o.l.length < 1000000):MFn L 77 [nlv byrow 1 o] (.ref 0 1 0 (fldB o.l).length none) [some (.arr 1 ((fldB o.l).map byrow))]:=by
 refine ⟨by simp [V.closeds,closed_nlv],AFn.of_body (F:=T77.1) (by rw [hL];rfl) rfl ?_⟩
 have w3:IntKind.u64.wrap (o.l.length:Int)=(o.l.length:Int):=wrap_u64 (by omega)
 have hroom:(2+o.l.length)*1≤140737488355328:=by omega
 have hl2:∀n,(ln2 n).length=2:=fun _=>rfl
 refine Wf0 w3 ?_
 refine opsP_any rfl (digits_m hL (n:=o.l.length) (by omega)).2 ?_
 rintro _ _ ⟨rfl,rfl⟩
 refine Wf0 (Q3 @rows_by hroom hl2) ?_
 refine FnQ.sh [some 1] [] rfl rfl rfl (sh_c ?_ sh_n) ⟨?_,rfl⟩
 ·show some (Blk.ren _ (.arr 1 ((ln2 o.l.length).map byrow++o.l.map byrow)))=_
  rw [←List.map_append,ren_tl closed_byrow];rfl
 ·rw [fld_len];rfl
theorem fieldR_at {o:Nl UInt8} (h:o.l.length < 1000000) (H:Heap):AFn L (.fn 77) [nlv byrow 1 o] H (fun r H'=>r=.ref H.length 1 0 (fldB o.l).length none∧H'=H++[some (.arr 1 ((fldB o.l).map byrow))]):=by
 refine AFn.mono ((fieldR_m hL h).at H) ?_
 rintro _ _ ⟨rfl,rfl⟩
 refine ⟨by rw [ren_up_ref];rfl,?_⟩
 show H++[some (Blk.ren _ (.arr 1 _))]=_
 rw [ren_tl closed_byrow]
theorem joinR_v {s:Nat} {l:List (List UInt8)} {c:Option Nat} (hs':s=1∨l=[]) (ho:l.length < 4611686018427387904) (h:∀f∈l,f.length < 4611686018427387904):VFn L 36 [tl flrow s l c] (joinV l):=by
 refine VFn.start (F:=T36.1) (by rw [hL];rfl) rfl rfl closed_joinV ?_
 refine Wn0 ?_
 refine wCnt rfl 5 l.length (fun j=>[(4,.int .i64 ((joinB (l.take j)).length:Nat))]) (fun j=>(joinB (l.take j)).length≤16384) rfl (by simp [joinB]) ?_ ?_
 ·intro j hj hI
  obtain ⟨x,hx,hm⟩:=get_of hj
  have hjn:(j:Int) < (l.length:Int):=by omega
  obtain rfl:=size_of hs' hj
  have hi:iaQ 1 (tl flrow 1 l c) j=some (.iptr 1 (l.map flrow) j 0):=iaQ_tl hj
  have hw:=wrap_succ (show j < 9223372036854775807 by omega)
  have hxl:=h x hm
  have hs:=join_snoc hx
  have hle:=join_le (l:=l) (j:=j+1)
  have hz:(nzq x).l.length=x.length:=by rw [nzq_l]
  rw [hs] at hle ⊢
  rw [List.length_append,fld_len] at *
  generalize (joinB (l.take j)).length=A at *
  have w1:IntKind.i64.wrap ((A:Int)+2)=(A:Int)+2:=wrap_i64 (by omega) (by omega)
  have w2:IntKind.i64.wrap ((A:Int)+2+(x.length:Int))=(A:Int)+2+(x.length:Int):=wrap_i64 (by omega) (by omega)
  by_cases hb:(16384:Int) < (A:Int)+2+(x.length:Int)
  ·rw [show joinV l=.tup [.lst 0 [] (some 0),.int .i64 4] from if_pos (by omega)]
   refine Wf0 (Q5 hi hjn hx @flrow_eq (Q4 w1 w2 hb hz)) ?_
   exact FnQ.ret rfl rfl
  ·refine Wf0 (Q5 hi hjn hx @flrow_eq (Q5 w1 w2 hb hz hw)) ?_
   refine qR_n ?_ rfl (by omega)
   rw [show (A:Int)+(2+(x.length:Int))=(A:Int)+2+(x.length:Int) by omega]
 ·intro hI
  rw [take_allq] at hI
  rw [show joinV l=.tup [nlv byrow 1 (nzq (joinB l)),.int .i64 0] from if_neg (by omega)]
  refine Wn0 ?_
  refine wPad [none] (H1:=[none]) rfl ?_ rfl ?_
  ·simp only [Env.sh,List.map_cons,List.map_nil,ren_nlv];rfl
  refine wCntH rfl 7 l.length (fun j=>[(6,accV 0 1 (joinB (l.take j)))]) (fun j=>[accB byrow 1 (joinB (l.take j))]) (fun _=>True) rfl rfl trivial ?_ ?_
  ·intro j hj _
   obtain ⟨x,hx,hm⟩:=get_of hj
   have hjn:(j:Int) < (l.length:Int):=by omega
   obtain rfl:=size_of hs' hj
   have hi:iaQ 1 (tl flrow 1 l c) j=some (.iptr 1 (l.map flrow) j 0):=iaQ_tl hj
   have hw:=wrap_succ (show j < 9223372036854775807 by omega)
   have hs:=join_snoc hx
   have hle:=join_le (l:=l) (j:=j+1)
   rw [hs] at hle ⊢
   rw [List.length_append,fld_len] at hle
   have hxl:(nzq x).l.length < 1000000:=by rw [nzq_l];omega
   have hf:(fldB x).length=2+x.length:=fld_len
   have hz:(nzq x).l=x:=nzq_l
   have hf0:fldB x≠[]:=fun e=>by rw [e] at hf;simp at hf;omega
   have htk:(List.take (2+x.length) (List.map byrow (fldB x)))=List.map byrow (fldB x):=List.take_of_length_le (by rw [List.length_map,hf];exact Nat.le_refl _)
   have hq0:¬2+x.length=0:=by omega
   have hq1:0 < 2+x.length:=by omega
   generalize joinB (l.take j)=A at *
   have hroom:(A.length+(2+x.length))*1≤140737488355328:=by omega
   have hroom2:(2+x.length)*1≤140737488355328:=by omega
   rw [accV_cons (show A++fldB x≠[] by simp [hf0]),accB_cons (show A++fldB x≠[] by simp [hf0])]
   refine Wf0 (Q5 hi hjn hx @flrow_eq hw) ?_
   have kf:=fieldR_at hL (o:=nzq x) hxl [accB byrow 1 A]
   rw [hz] at kf
   by_cases hA:A=[]
   ·subst hA
    rw [accV_nil,accB_nil] at *
    refine opsP_any rfl kf ?_
    rintro _ _ ⟨rfl,rfl⟩
    refine Wf0 (Q5 hf hroom2 hw hz (Q3 htk hq0 hq1)) ?_
    exact qR_s [some 2] [] rfl (by simp only [Env.sh,List.map_cons,List.map_nil,ren_nlv];rfl) (sh_c (congrArg some (ren_tl closed_byrow)) sh_n) trivial
   ·rw [accV_cons hA,accB_cons hA] at *
    refine opsP_any rfl kf ?_
    rintro _ _ ⟨rfl,rfl⟩
    refine Wf0 (Q5 hf hroom hw hz htk) ?_
    refine qR_s [some 2] [] rfl ?_ (sh_c ?_ sh_n) trivial
    ·simp only [Env.sh,List.map_cons,List.map_nil,ren_nlv,List.length_append,hf];rfl
    ·show some (Blk.ren _ (.arr 1 (A.map byrow++(fldB x).map byrow)))=_
     rw [←List.map_append,ren_tl closed_byrow]
  ·intro _
   rw [take_allq]
   refine Wn0 ?_
   exact FnQ.frz [0] rfl (congrArg (fun v=>V.tup [v,V.int .i64 0]) (acc_frz (fz:=[0]) (src:=[]) closed_byrow (by decide) rfl rfl rfl))
end Go.Proofs.YtigdhgbkgfagiaaGreat
namespace Go.Proofs.YtigdhgbkgfagiaaGreat
def odT (t:Tq):Bool:=odI t.chosen||t.among.l.any odI
def odO (o:Oq):Bool:=o.el.l.any odI||o.ties.l.any odT
def tieB (t:Tq):List UInt8:=u8i t.chosen::txt t.among.l
def fldsO (o:Oq):List (List UInt8):=txt o.el.l::o.ties.l.map tieB
def bytesV (o:Oq):V:=if odO o then .tup [.lst 0 [] (some 0),.int .i64 2] else joinV (fldsO o)
section
variable {L:Lib} {H:Heap}
theorem AFn.lendV {k:Nat} {vs vs':List V} {r:V} (bor:List Nat) (hvs:vs.map (V.ren (sgOf H [] bor))=vs') (hf:VFn L k vs' r) (hr:r.noLst=true):AFn L (.fn k) vs H (fun r' H'=>r'=r∧H'=H):=by
 refine AFn.mono (AFn.lendM (h':=[]) bor hvs ⟨hf.1,hf.2.2⟩ (by simp [outOk,hr])) ?_
 rintro _ _ ⟨rfl,rfl⟩
 exact ⟨V.ren_closed _ hf.2.1,List.append_nil _⟩
end
def fnCell:V:=.iptr 1 [[.fn 28 [] []]] 0 0
theorem closed_fnCell:fnCell.closed=true:=rfl
variable {L:Lib} (hL:L.T=tab.get)
include hL
theorem odI_v (x:Int):VFn L 30 [.int .i64 x] (.bool (odI x)):=by
 refine VFn.start (F:=T30.1) (by rw [hL];rfl) rfl rfl rfl ?_
 by_cases h1:x < 0
 ·rw [show odI x=true by simp [odI,h1]]
  refine Wf0 h1 ?_
  exact FnQ.ret rfl rfl
 ·by_cases h2:10≤x
  ·rw [show odI x=true by simp [odI,h2]]
   refine Wf0 (Q2 h1 h2) ?_
   exact FnQ.ret rfl rfl
  ·rw [show odI x=false by simp [odI];omega]
   refine Wf0 (Q2 h1 h2) ?_
   exact FnQ.ret rfl rfl
theorem odL_v {s:Nat} {l:List Int} {c:Option Nat} (hs:s=1∨l=[]) (hl:l.length < 4611686018427387904):VFn L 28 [tl mrow s l c] (.bool (l.any odI)):=by
 have kc:VFn L 29 [tl mrow s l c,.fn 30 [] []] (.bool (l.any odI)):=⟨rfl,rfl,containsI_a hL (H:=[]) (fs:=[]) (cs:=[]) (p:=odI) (IsG.tl (g:=V.int .i64) (fun _=>rfl) hs) hl (fun x _=>(odI_v hL x).at _)⟩
 refine VFn.start (F:=T28.1) (by rw [hL];rfl) rfl rfl rfl ?_
 refine Wn1 kc ?_
 exact FnQ.ret rfl rfl
theorem odN_v {o:Nl Int} (hl:o.l.length < 4611686018427387904):VFn L 28 [nlv mrow 1 o] (.bool (o.l.any odI)):=by
 obtain ⟨s,c,h1,h2⟩:=nlv_tl (f:=mrow) (n:=1) (o:=o)
 rw [h1]
 exact odL_v hL h2 hl
theorem odT_v {t:Tq} (ht:t.among.l.length < 4611686018427387904):VFn L 33 [.agg (tqrow t),fnCell] (.bool (odT t)):=by
 refine VFn.start (F:=T33.1) (by rw [hL];rfl) rfl (by simp [V.closeds,V.closed,closed_nlv,tqrow,closed_fnCell]) rfl ?_
 unfold tqrow fnCell
 have k1:VFn L 28 [tl mrow 1 [t.chosen] (some 1)] (.bool ([t.chosen].any odI)):=odL_v hL (.inl rfl) (by simp)
 have k2:=odN_v hL (o:=t.among) ht
 have e:odT t=(odI t.chosen||t.among.l.any odI):=rfl
 rw [e]
 rw [show [t.chosen].any odI=odI t.chosen by simp] at k1
 refine Wn0 ?_
 refine opsP_any rfl (AFn.lendV [1] rfl k1 rfl) ?_
 rintro _ _ ⟨rfl,rfl⟩
 cases h1:odI t.chosen with
 | true=>
  refine Wn0 ?_
  exact FnQ.ret rfl rfl
 | false=>
  refine Wn0 ?_
  refine opsP_any rfl (k2.at _) ?_
  rintro _ _ ⟨rfl,rfl⟩
  refine Wn0 ?_
  exact FnQ.ret rfl rfl
theorem idxT_v {o:Nl Tq} (ho:o.l.length < 4611686018427387904) (h:∀t∈o.l,t.among.l.length < 4611686018427387904):VFn L 75 [nlv tqrow 2 o,.fn 33 [] [fnCell]] (.int .i64 (findG odT o.l 0)):=by
 refine VFn.start (F:=T75.1) (by rw [hL];rfl) rfl (by simp [V.closeds,V.closed,closed_nlv,closed_fnCell]) rfl ?_
 refine Wn0 ?_
 refine wCnt rfl 8 o.l.length (fun _=>[]) (fun j=>findG odT o.l 0=findG odT (o.l.drop j) j) rfl rfl ?_ ?_
 ·intro j hj hI
  obtain ⟨x,hx,hm⟩:=get_of hj
  have hw:=wrap_succ (show j < 9223372036854775807 by omega)
  have hd:=drop_atG hx
  have kt:=odT_v hL (h x hm)
  unfold tqrow at kt
  refine Wf0 (Q4 hj (iN hj) hx @tqrow_eq) ?_
  refine opsP_any rfl (kt.at _) ?_
  rintro _ _ ⟨rfl,rfl⟩
  cases hp:odT x with
  | true=>
   rw [show findG odT o.l 0=(j:Int) by rw [hI,hd];exact if_pos hp]
   refine Wn0 ?_
   exact FnQ.ret rfl rfl
  | false=>
   refine Wf0 hw ?_
   refine qR_n rfl rfl ?_
   rw [hI,hd]
   exact if_neg (by rw [hp];simp)
 ·intro hI
  rw [show findG odT o.l 0=-1 by rw [hI,List.drop_eq_nil_of_le (Nat.le_refl _)];rfl]
  refine Wn0 ?_
  exact FnQ.ret rfl rfl
theorem cfT_v {o:Nl Tq} (ho:o.l.length < 4611686018427387904) (h:∀t∈o.l,t.among.l.length < 4611686018427387904):VFn L 32 [nlv tqrow 2 o,.fn 33 [] [fnCell]] (.bool (o.l.any odT)):=by
 have k1:=idxT_v hL ho h
 have e:=findG_any (p:=odT) o.l 0
 refine VFn.start (F:=T32.1) (by rw [hL];rfl) rfl (by simp [V.closeds,V.closed,closed_nlv,closed_fnCell]) rfl ?_
 rw [←e]
 refine Wn1 k1 ?_
 exact FnQ.ret rfl rfl
end Go.Proofs.YtigdhgbkgfagiaaGreat
