/- Sheets: scores, by the program, walked. · Sheets: Read, by the program, walked. -/
import Derived.Test.YtigdhgbkgfagiaaGreatZM2
import Derived.Test.YtigdhgbkgfagiaaGreatZP5
set_option maxRecDepth 100000
set_option maxHeartbeats 4000000
set_option linter.unusedVariables false
set_option linter.unusedSimpArgs false
namespace Go.Proofs.YtigdhgbkgfagiaaGreat
def ownR (M:List Bool) (w i:Nat):List Bool:=(M.drop (i*w)).take w
def atB (own:List Bool):Int:=findG (fun x=>decide (true=x)) own 0
theorem findG_le {α:Type} {p:α→Bool}:∀(l:List α) (j:Nat),findG p l j=-1∨((j:Int)≤findG p l j∧findG p l j < j+l.length)
 | [],j=>.inl rfl
 | x::r,j=>by
  unfold findG
  cases h:p x with
  | true=>rw [if_pos rfl];exact .inr ⟨by omega,by simp only [List.length_cons];omega⟩
  | false=>
   rw [if_neg (by simp)]
   rcases findG_le (p:=p) r (j+1) with h1|⟨h1,h2⟩
   ·exact .inl h1
   ·exact .inr ⟨by omega,by simp only [List.length_cons];omega⟩
def scL (M:List Bool) (n w:Nat):Nat→List Int×Nat
 | 0=>(List.replicate n 0,0)
 | j+1=>
  if atB (ownR M w j) < 0 then scL M n w j
  else if true∈(ownR M w j).drop ((atB (ownR M w j)).toNat+1) then ((scL M n w j).1,(scL M n w j).2+1)
  else ((scL M n w j).1.set j (atB (ownR M w j)),(scL M n w j).2)
theorem scL_len {M:List Bool} {n w:Nat}:∀j,(scL M n w j).1.length=n
 | 0=>List.length_replicate ..
 | j+1=>by
  unfold scL
  split
  ·exact scL_len j
  ·split
   ·exact scL_len j
   ·rw [List.length_set];exact scL_len j
theorem scL_le {M:List Bool} {n w:Nat}:∀j,(scL M n w j).2≤j
 | 0=>Nat.le_refl _
 | j+1=>by
  have:=scL_le (M:=M) (n:=n) (w:=w) j
  unfold scL
  split
  ·omega
  ·split
   ·simp only;omega
   ·simp only;omega
theorem sliceV_mid {α:Type} {f:α→List V} {s:Nat} {l:List α} {c:Option Nat} {lo k:Nat} (hs:s≠0∧s≠1000003) (h:lo+k≤l.length):sliceV s (tl f s l c) (some (some lo)) (some (some (lo+k))) (some none)=some (tl f s ((l.drop lo).take k) (c.map (· - lo))):=by
 unfold sliceV tl
 simp only [Option.getD_some,List.length_map]
 rw [if_pos ⟨⟨.inl trivial,hs⟩,by omega,by omega⟩]
 simp [List.map_take,List.map_drop,show lo+k - lo=k by omega]
theorem mrow_set' {r:List Int} {i:Nat} {x:Int}:(r.map mrow).set i [.int .i64 x]=(r.set i x).map mrow:=by rw [List.map_set];rfl
variable {L:Lib} (hL:L.T=tab.get)
include hL
theorem indexB_v {s:Nat} {l:List Bool} {c:Option Nat} {y:Bool} (hs:s=1∨l=[]) (hl:l.length < 4611686018427387904):VFn L 211 [tl brow s l c,.bool y] (.int .i64 (findG (fun x=>decide (y=x)) l 0)):=by
 refine VFn.start (F:=T211.1) (by rw [hL];rfl) rfl rfl rfl ?_
 refine Wn0 ?_
 refine wCnt rfl 8 l.length (fun _=>[]) (fun j=>findG (fun x=>decide (y=x)) l 0=findG (fun x=>decide (y=x)) (l.drop j) j) rfl rfl ?_ ?_
 ·intro j hj hI
  obtain ⟨x,hx,hm⟩:=get_of hj
  obtain rfl:=size_of hs hj
  have hd:=drop_atG hx
  by_cases hp:y=x
  ·have hb:(y == x)=true:=by simp [hp]
   refine Wf0 (Q5 hj (iT hj) hx @brow_eq hb) ?_
   rw [show findG (fun x=>decide (y=x)) l 0=(j:Int) by rw [hI,hd];exact if_pos (by simp [hp])]
   exact FnQ.ret rfl rfl
  ·have hb:(y == x)=false:=by simp [hp]
   refine Wf0 (Q5 hj (iT hj) hx @brow_eq (Q2 hb (wrap_succ (show j < 9223372036854775807 by omega)))) ?_
   refine qR_n rfl rfl ?_
   rw [hI,hd]
   exact if_neg (by simp [hp])
 ·intro hI
  refine Wn0 ?_
  rw [show findG (fun x=>decide (y=x)) l 0=-1 by rw [hI,List.drop_eq_nil_of_le (Nat.le_refl _)];rfl]
  exact FnQ.ret rfl rfl
theorem containB_v {s:Nat} {l:List Bool} {c:Option Nat} {y:Bool} (hs:s=1∨l=[]) (hl:l.length < 4611686018427387904):VFn L 212 [tl brow s l c,.bool y] (.bool (decide (y∈l))):=by
 have ki:=indexB_v hL (c:=c) (y:=y) hs hl
 have he:decide (y∈l)=decide (0≤findG (fun x=>decide (y=x)) l 0):=by
  rw [findG_any]
  rw [Bool.eq_iff_iff]
  simp
 rw [he]
 refine VFn.start (F:=T212.1) (by rw [hL];rfl) rfl rfl rfl ?_
 refine Wn1 ki ?_
 exact FnQ.ret rfl rfl
theorem scored_a {kind:Int} {m d:V} {M:List Bool} {c:Option Nat} {n w most:Nat} {skips:Int} (hd:d.closed=true) (hn:n≤1000) (hw:w≤1000) (hM:M.length=n*w) :
    AFn L (.fn 201) [.ptr 0 9 0 0] [some (.arr 9 [rdC kind m 0 d M c n w most skips])] (fun r H'=>r=.tup []∧H'=[some (.arr 9 [rdC kind (tl mrow 1 (scL M n w n).1 (some n)) (scL M n w n).2 d M c n w most skips])]):=by
 refine AFn.of_body (F:=T201.1) (by rw [hL];rfl) rfl ?_
 unfold rdC
 have hn8:n*8≤140737488355328:=by omega
 have hn9:n < 9223372036854775808:=by omega
 refine Wf0 (Q2 hn8 hn9) ?_
 refine wCntH rfl 19 n (fun _=>[]) (fun j=>[some (.arr 9 [rdC kind (.ref 1 1 0 n (some n)) (scL M n w j).2 d M c n w most skips]),some (.arr 1 ((scL M n w j).1.map mrow))]) (fun _=>True) rfl ?_ trivial ?_ ?_
 ·show _=[some (Blk.arr 9 [rdC kind (V.ref 1 1 0 n (some n)) ((0:Nat):Int) d M c n w most skips]),some (Blk.arr 1 (List.map mrow (List.replicate n 0)))]
  rw [List.map_replicate]
  rfl
 ·intro j hj _
  have hx:j*w+w≤M.length:=by
   rw [hM]
   have:(j+1)*w≤n*w:=Nat.mul_le_mul_right _ hj
   rw [Nat.succ_mul] at this;omega
  have hxb:j*w+w≤1000000:=by
   rw [hM] at hx
   exact Nat.le_trans hx (Nat.mul_le_mul hn hw)
  have hjw:j*w≤1000000:=by omega
  have w1:IntKind.i64.wrap ((j:Int)*(w:Int))=((j*w:Nat):Int):=by rw [←Int.natCast_mul];exact wrap_nat (by omega)
  have w2:IntKind.i64.wrap (((j:Int)+1)*(w:Int))=((j*w+w:Nat):Int):=by rw [show ((j:Int)+1)*(w:Int)=((j*w+w:Nat):Int) by push_cast;rw [Int.add_mul,Int.one_mul]];exact wrap_nat (by omega)
  have hw3:=wrap_succ (show j < 9223372036854775807 by omega)
  have hs:=sliceV_mid (f:=brow) (c:=c) one_ok hx
  have e1:ownR M w j=(M.drop (j*w)).take w:=rfl
  rw [←e1] at hs
  have hown:(ownR M w j).length=w:=by rw [e1,List.length_take,List.length_drop];omega
  have hl1:=scL_len (M:=M) (n:=n) (w:=w) j
  have hl2:=scL_le (M:=M) (n:=n) (w:=w) j
  have hat:=findG_le (p:=fun x=>decide (true=x)) (ownR M w j) 0
  rw [show findG (fun x=>decide (true=x)) (ownR M w j) 0=atB (ownR M w j) from rfl] at hat
  have ki:=indexB_v hL (s:=1) (c:=c.map (· - j*w)) (y:=true) (l:=ownR M w j) (.inl rfl) (by omega)
  rw [show findG (fun x=>decide (true=x)) (ownR M w j) 0=atB (ownR M w j) from rfl] at ki
  have hstep:scL M n w (j+1)=if atB (ownR M w j) < 0 then scL M n w j else if true∈(ownR M w j).drop ((atB (ownR M w j)).toNat+1) then ((scL M n w j).1,(scL M n w j).2+1) else ((scL M n w j).1.set j (atB (ownR M w j)),(scL M n w j).2):=rfl
  rw [hstep]
  generalize scL M n w j=S at *
  obtain ⟨S1,S2⟩:=S
  generalize ownR M w j=own at *
  generalize atB own=at' at *
  generalize hX:j*w+w=X at *
  generalize hY:j*w=Y at *
  unfold rdC
  by_cases h0:at' < 0
  ·rw [if_pos h0]
   refine Wf1 (Q5 hj w1 w2 hw3 (Q2 hs h0)) ki ?_
   exact qR_n rfl rfl trivial
  ·obtain ⟨a,rfl⟩:∃a:Nat,at'=a:=⟨at'.toNat,by omega⟩
   rw [Int.toNat_natCast,if_neg h0]
   have kc:=containB_v hL (s:=1) (c:=(c.map (· - Y)).map (· - (a+1))) (y:=true) (l:=own.drop (a+1)) (.inl rfl) (by rw [List.length_drop];omega)
   have hs2:=sliceV_lo (f:=brow) (l:=own) (c:=c.map (· - Y)) (n:=a+1) one_ok (by omega)
   have hwa:=wrap_succ (show a < 9223372036854775807 by omega)
   by_cases hc:true∈own.drop (a+1)
   ·rw [if_pos hc]
    have hws:=wrap_succ (show S2 < 9223372036854775807 by omega)
    refine Wf2 (Q5 hj w1 w2 hw3 (Q5 hs hs2 hwa hws (Q2 h0 hc))) ki kc ?_
    exact qR_n rfl rfl trivial
   ·rw [if_neg hc]
    obtain ⟨x1,hg⟩:∃x,S1[j]?=some x:=⟨_,List.getElem?_eq_getElem (show j < S1.length by simp only at hl1;omega)⟩
    refine Wf2 (Q5 hj w1 w2 hw3 (Q5 hs hs2 hwa h0 (Q4 hc hg @mrow_eq @mrow_set'))) ki kc ?_
    exact qR_n rfl rfl trivial
 ·intro _
  refine Wn0 ?_
  refine if_eq rfl ?_
  have hl:=scL_len (M:=M) (n:=n) (w:=w) n
  generalize scL M n w n=S at *
  obtain ⟨S1,S2⟩:=S
  subst hl
  refine FnQ.sh [some 0] [1] rfl rfl rfl (sh_c (congrArg some ?_) sh_n) ⟨rfl,rfl⟩
  have h1:=frz_refS' (fz:=[1]) (src:=[some 0]) (c:=some S1.length) (f:=mrow) (n:=1) (l:=S1) (a:=1) (H:=[some (Blk.arr 9 [rdC kind (V.ref 1 1 0 S1.length (some S1.length)) (S2:Nat) d M c S1.length w most skips]),some (Blk.arr 1 (List.map mrow S1))]) closed_mrow Nat.one_pos rfl rfl rfl
  show Blk.arr 9 [(rdC kind (V.ref 1 1 0 S1.length (some S1.length)) (S2:Nat) d M c S1.length w most skips).map _]=_
  simp only [rdC,List.map_cons,List.map_nil,V.ren_closed _ hd] at h1 ⊢
  rw [h1]
  rfl
end Go.Proofs.YtigdhgbkgfagiaaGreat
namespace Go.Proofs.YtigdhgbkgfagiaaGreat
structure Rg where
 kind:Int
 ms:List Int
 over:Nat
 db:List Int
def rg0:Rg:=⟨0,[],0,[]⟩
def rgM (kind:Int) (ms:List Int):V:=if kind=3 then tl mrow 1 ms (some ms.length) else colV ms
def rgC (r:Rg):List V:=[.int .u8 r.kind,rgM r.kind r.ms,.int .i64 r.over,colV r.db]
def markR (kind:Int) (M:List Bool) (n w most:Nat) (skips:Int):List Int×Nat:=
 if kind=1 then ((rkL M n w skips w 0 0 []).1,if (rkL M n w skips w 0 0 []).2 then 1 else 0)
 else if kind=3 then scL M n w n
 else if most < (colL M w 0 n).length then ([],1) else (colL M w 0 n,0)
def decL:List (Int×Bool)→List Bool→List Bool→Option (List Bool×List Bool)
 | [],M,D=>some (M,D)
 | d::r,M,D=>if d.1 < 0∨(D.length:Int)≤d.1 then none else if D[d.1.toNat]?.getD false=true then decL r (M.set d.1.toNat d.2) (D.set d.1.toNat false) else none
def dbL (D:List Bool):Nat→List Int
 | 0=>[]
 | j+1=>dbL D j++(if D[j]?.getD false then [(j:Int)] else [])
def badP (lo hi skips:Int):Prop:=lo < 1∨hi < lo∨100 < hi∨skips < 0∨10 < skips
instance {lo hi skips:Int}:Decidable (badP lo hi skips):=by unfold badP;infer_instance
def readF (c:Ct) (lo hi skips:Int) (B:List Int) (ds:List (Int×Bool)):Rg×Int:=
 if shCheck c B≠0 then (rg0,shCheck c B)
 else if badP lo hi skips then (rg0,2)
 else if B.length < ds.length then (rg0,4)
 else match decL ds (B.map fun b=>decide (hi≤b)) (B.map fun b=>decide (lo≤b)&&decide (b < hi)) with
  | none=>(rg0,2)
  | some (M,D)=>(⟨kindR c.rule,(markR (kindR c.rule) M c.cands.length (wideF (kindR c.rule) c.cands.length) (mostF c) skips).1,(markR (kindR c.rule) M c.cands.length (wideF (kindR c.rule) c.cands.length) (mostF c) skips).2,dbL D D.length⟩,0)
def drow (d:Int×Bool):List V:=[.int .i64 d.1,.bool d.2]
theorem drow_eq (d:Int×Bool):drow d=[.int .i64 d.1,.bool d.2]:=rfl
theorem closed_rgM (kind:Int) (ms:List Int):(rgM kind ms).closed=true:=by
 unfold rgM
 split
 ·rfl
 ·exact closed_colV ms
theorem closed_rgV (r:Rg) (e:Int):V.closed (.tup [.agg (rgC r),.int .i64 e])=true:=by
 simp [rgC,V.closed,V.closeds,closed_rgM,closed_colV]
section
variable {L:Lib} {l:List AI} {rs:List Rec} {ms:List Nat} {K:Env→Heap→Prop} {E:Env} {H:Heap} {d:Option Nat} {anc:List Nat} {α:Type} {f:α→List V} {n:Nat} {t:List α} {c:Option Nat}
theorem dops_lenT {x:AOpd} (hx:opval L.G E.get x=some (tl f n t c))
    (hi:indB (ancM ms anc) { dst:=d,looks:=AI.looks ⟨d,.len x,none,anc⟩,v:=some (.int .i64 t.length),need:=[],eff:=[],slot:=H.length,k:=0 } 0 rs=true)
    (k:dopsP L l (rs++[{ dst:=d,looks:=AI.looks ⟨d,.len x,none,anc⟩,v:=some (.int .i64 t.length),need:=[],eff:=[],slot:=H.length,k:=0 }]) (ms++[ancM ms anc]) K (E.put d (.int .i64 t.length)) H):dopsP L (⟨d,.len x,none,anc⟩::l) rs ms K E H:=
 dops_op (e:={ v:=.int .i64 t.length }) rfl rfl (by
  show ((opval L.G E.get x).bind _)=_
  rw [hx]
  show (match tl f n t c with|.ref _ _ _ ln _=>some ({ v:=.int .i64 ln }:Eff)|.lst _ rows _=>some { v:=.int .i64 rows.length }|_=>none)=_
  simp [tl]) rfl hi (by simpa [Heap.app,Heap.upds,Eff.all] using k)
theorem dops_iaR {x y:AOpd} {a j m:Nat} {cp:Option Nat} (hx:opval L.G E.get x=some (.ref a n 0 m cp)) (hy:opval L.G E.get y=some (.int .i64 (j:Nat))) (hj:j < m)
    (hi:indB (ancM ms anc) { dst:=d,looks:=AI.looks ⟨d,.ia n x y,none,anc⟩,v:=some (.ptr a n j 0),need:=[],eff:=[],slot:=H.length,k:=0 } 0 rs=true)
    (k:dopsP L l (rs++[{ dst:=d,looks:=AI.looks ⟨d,.ia n x y,none,anc⟩,v:=some (.ptr a n j 0),need:=[],eff:=[],slot:=H.length,k:=0 }]) (ms++[ancM ms anc]) K (E.put d (.ptr a n j 0)) H):dopsP L (⟨d,.ia n x y,none,anc⟩::l) rs ms K E H:=
 dops_op (e:={ v:=.ptr a n j 0 }) rfl rfl (by
  show ((opval L.G E.get x).bind _)=_
  rw [hx]
  show (((opval L.G E.get y).bind V.nat?).bind _)=_
  rw [hy]
  show ((V.nat? (.int .i64 (j:Nat))).bind _)=_
  rw [nat?_ofNat]
  show (if n=n∧j < m then some ({ v:=.ptr a n (0+j) 0 }:Eff) else none)=_
  rw [if_pos ⟨rfl,hj⟩,Nat.zero_add]) rfl hi (by simpa [Heap.app,Heap.upds,Eff.all] using k)
theorem dops_stR {p x:AOpd} {a j:Nat} {rows:List (List V)} {u v:V} (hp:opval L.G E.get p=some (.ptr a 1 j 0)) (hx:opval L.G E.get x=some v) (hv1:v.cells=[v]) (hv2:v.isVal=true) (hH:H.get a=some (.arr 1 rows)) (hr:rows[j]?=some [u]) (ha:Nat.blt a H.length=true)
    (hi:indB (ancM ms anc) { dst:=d,looks:=AI.looks ⟨d,.store 1 p x,none,anc⟩,v:=some (.tup []),need:=[a],eff:=[(a,some (.arr 1 (rows.set j [v])))],slot:=H.length,k:=0 } 0 rs=true)
    (k:dopsP L l (rs++[{ dst:=d,looks:=AI.looks ⟨d,.store 1 p x,none,anc⟩,v:=some (.tup []),need:=[a],eff:=[(a,some (.arr 1 (rows.set j [v])))],slot:=H.length,k:=0 }]) (ms++[ancM ms anc]) K (E.put d (.tup [])) (H.set a (some (.arr 1 (rows.set j [v]))))):dopsP L (⟨d,.store 1 p x,none,anc⟩::l) rs ms K E H:=
 dops_op (e:={ v:=.tup [],need:=[a],upd:=[(a,some (.arr 1 (rows.set j [v])))] }) rfl rfl (by
  have hg:shG 1 H.get a=some (.arr 1 rows):=by
   show (H.get a).map _=_
   rw [hH]
   exact congrArg some shape_same
  show ((opval L.G E.get p).bind fun p'=>(opval L.G E.get x).bind fun x'=>storeV (shG (((opval L.G E.get p).map V.psz).getD 0) H.get) 1 p' x')=_
  rw [hp]
  show ((opval L.G E.get x).bind fun x'=>storeV (shG 1 H.get) 1 (.ptr a 1 j 0) x')=_
  rw [hx]
  show storeV (shG 1 H.get) 1 (.ptr a 1 j 0) v=_
  unfold storeV
  dsimp only
  rw [hg]
  dsimp only
  rw [if_pos ⟨rfl,by rw [hv1];rfl,hv2⟩,hr,hv1]
  rfl) (by simp only [List.all_cons,List.all_nil,ha,Bool.and_self]) (by simpa [Eff.all] using hi) (by simpa [Heap.app,Heap.upds,Eff.all] using k)
end
def mkL (f:Int→Bool) (B:List Int) (j:Nat):List Bool:=(B.take j).map f++List.replicate (B.length - j) false
theorem mkL_0 {f:Int→Bool} {B:List Int}:mkL f B 0=List.replicate B.length false:=rfl
theorem mkL_n {f:Int→Bool} {B:List Int}:mkL f B B.length=B.map f:=by simp [mkL]
theorem mkL_len {f:Int→Bool} {B:List Int} {j:Nat} (h:j≤B.length):(mkL f B j).length=B.length:=by simp [mkL];omega
theorem mkL_get {f:Int→Bool} {B:List Int} {j:Nat} (h:j < B.length):(mkL f B j)[j]?=some false:=by
 unfold mkL
 rw [List.getElem?_append_right (by simp;omega),List.getElem?_replicate,if_pos (by simp;omega)]
theorem mkL_set {f:Int→Bool} {B:List Int} {j:Nat} {x:Int} (h:B[j]?=some x):(mkL f B j).set j (f x)=mkL f B (j+1):=by
 have hj:=(List.getElem?_eq_some_iff.1 h).1
 unfold mkL
 rw [List.set_append_right _ _ (by simp;omega),List.take_add_one,h,show B.length - j=(B.length - (j+1))+1 by omega,List.replicate_succ]
 simp [show j - min j B.length=0 by omega]
theorem closed_brw (x:Bool):(brow x).all V.closed=true:=rfl
theorem brow_set' {r:List Bool} {i:Nat} {x:Bool}:(r.map brow).set i [.bool x]=(r.set i x).map brow:=by rw [List.map_set];rfl
def rH (db:V) (M:List Bool) (n w most:Nat) (skips:Int) (D:List Bool):Heap:=
 [some (.arr 4 [[.int .u8 0,.lst 0 [] (some 0),.int .i64 0,.lst 0 [] (some 0)]]),some (.arr 1 (M.map brow)),
  some (.arr 9 [[.int .u8 0,.lst 0 [] (some 0),.int .i64 0,db,.ref 1 1 0 (n*w) (some (n*w)),.int .i64 n,.int .i64 w,.int .i64 most,.int .i64 skips]]),some (.arr 1 (D.map brow))]
def resR (kd:Int) (o:Option (List Bool×List Bool)) (n w most:Nat) (skips:Int):Rg×Int:=
 match o with
 | none=>(rg0,2)
 | some (M,D)=>(⟨kd,(markR kd M n w most skips).1,(markR kd M n w most skips).2,dbL D D.length⟩,0)
theorem dbL_le {D:List Bool}:∀j,(dbL D j).length≤j
 | 0=>Nat.le_refl 0
 | j+1=>by
  unfold dbL
  rw [List.length_append]
  have:=dbL_le (D:=D) j
  split <;> simp <;> omega
theorem back_one {A B:Option Blk} {r:List V} (h:r.all V.closed=true):Heap.back [A,B] [1] [some (.arr 9 [r])]=[A,some (.arr 9 [r])]:=by
 show [A,(some (Blk.arr 9 [r])).map (Blk.ren (outσ 2 [1]))]=_
 rw [Option.map_some,blk_ren h]
structure DecI (ds:List (Int×Bool)) (m:Nat) (res:Option (List Bool×List Bool)) (s:Nat×List Bool×List Bool):Prop where
 j:s.1≤ds.length
 lm:s.2.1.length=m
 ld:s.2.2.length=m
 res:decL (ds.drop s.1) s.2.1 s.2.2=res
def rdH (c:Ct) (s:Nat) (k:Option Nat) (lo hi skips:Int) (s':Nat) (B:List Int) (k':Option Nat) (db:V) (M D:List Bool):Heap:=
 [some (.arr 4 [ctC c s k]),some (.arr 3 [[.int .u8 lo,.int .u8 hi,.int .i64 skips]]),some (.arr 1 [[tl urow s' B k']]),some (.arr 4 [[.int .u8 0,.lst 0 [] (some 0),.int .i64 0,.lst 0 [] (some 0)]]),some (.arr 1 (M.map brow)),
  some (.arr 9 [[.int .u8 0,nilV,.int .i64 0,db,.ref 4 1 0 B.length (some B.length),.int .i64 c.cands.length,.int .i64 (wideF (kindR c.rule) c.cands.length),.int .i64 (mostF c),.int .i64 skips]]),some (.arr 1 (D.map brow))]
variable {L:Lib} (hL:L.T=tab.get)
include hL
theorem shOf_v {kd:Int}:VFn L 175 [.int .u8 kd] (if kd=1 then .fn 200 [] [] else if kd=3 then .fn 201 [] [] else .fn 202 [] []):=by
 by_cases h1:kd=1
 ·rw [if_pos h1]
  refine VFn.start (F:=T175.1) (by rw [hL];rfl) rfl rfl rfl ?_
  refine Wf0 h1 ?_
  exact FnQ.ret rfl rfl
 ·rw [if_neg h1]
  by_cases h3:kd=3
  ·rw [if_pos h3]
   refine VFn.start (F:=T175.1) (by rw [hL];rfl) rfl rfl rfl ?_
   refine Wf0 (Q2 h1 h3) ?_
   exact FnQ.ret rfl rfl
  ·rw [if_neg h3]
   refine VFn.start (F:=T175.1) (by rw [hL];rfl) rfl rfl rfl ?_
   refine Wf0 (Q2 h1 h3) ?_
   exact FnQ.ret rfl rfl
theorem read_end {kd:Int} {n w most m:Nat} {skips:Int} {M D:List Bool} {db:List Int} {RES:Rg×Int} (hm:M.length=n*w) (hmm:n*w=m) (hn2:n≤10) (hw1:w≤11) (hw2:1≤w) (hres:RES=(⟨kd,(markR kd M n w most skips).1,(markR kd M n w most skips).2,db⟩,0)) :
    SWP L 0 T147.val.ntmps T147.val.body.r.r.r.r.r.r.r.r.r.r.l.r.l.l (qR 0 [] [] False
     (qB T147.val.body.r.r.r.r.r.r.r.r.r.r.l.r.id
     (qN L 0 T147.val.ntmps T147.val.body.r.r.r.r.r.r.r.r.r.r.r
      (FnQ T147.val 0 fun r' H'=>r'=V.tup [V.agg (rgC RES.fst),V.int IntKind.i64 RES.snd]∧H'=[]))))
    [(8,.ptr 0 4 0 0),(10,.int .u8 kd),(14,.ptr 1 9 0 0),(169,tl brow 1 D (some m)),(170,.int .i64 m),(171,.int .i64 m)]
    [some (.arr 4 [[.int .u8 0,.lst 0 [] (some 0),.int .i64 0,.lst 0 [] (some 0)]]),some (.arr 9 [rdC 0 nilV 0 (colV db) M (some m) n w most skips])]:=by
 subst hres
 have hdc:=closed_colV db
 have kof:=shOf_v hL (kd:=kd)
 have hmr:(decide ((m:Int) < m))=false:=decide_eq_false (Int.lt_irrefl _)
 unfold markR rgC rgM
 by_cases h1:kd=1
 ·subst h1
  have ka:=ranks_a hL (kind:=1) (over:=0) (d:=colV db) (M:=M) (c:=some m) (n:=n) (w:=w) (most:=most) (skips:=skips) hdc (by omega) (by omega) hm
  rw [if_pos rfl] at kof
  simp only [↓reduceIte,show ¬(1:Int)=3 by decide]
  generalize rkL M n w skips w 0 0 []=R at *
  rw [show (((if R.2=true then 1 else 0:Nat)):Int)=if R.2=true then 1 else 0 by split <;> rfl]
  generalize (if R.2=true then (1:Int) else 0)=ov at *
  unfold rdC at ka ⊢
  refine Wf1 hmr kof ?_
  refine opsP_frm [1] rfl rfl rfl rfl (sh_c (congrArg some (blk_ren (by simp [V.closed,tl,nilV,hdc]))) sh_n) ka ?_
  rintro r h' ⟨rfl,rfl⟩
  rw [back_one (by simp [V.closed,tl,nilV,hdc,closed_colV])]
  refine Wf0 @ren_tup0 ?_
  exact FnQ.ret rfl (by simp [V.closed,V.closeds,tl,nilV,hdc,closed_colV])
 ·rw [if_neg h1] at kof ⊢
  by_cases h3:kd=3
  ·subst h3
   have ka:=scored_a hL (kind:=3) (m:=nilV) (d:=colV db) (M:=M) (c:=some m) (n:=n) (w:=w) (most:=most) (skips:=skips) hdc (by omega) (by omega) hm
   rw [if_pos rfl] at kof
   simp only [↓reduceIte]
   have hl:=scL_len (M:=M) (n:=n) (w:=w) n
   rw [hl]
   generalize scL M n w n=R at *
   unfold rdC at ka ⊢
   refine Wf1 hmr kof ?_
   refine opsP_frm [1] rfl rfl rfl rfl (sh_c (congrArg some (blk_ren (by simp [V.closed,tl,nilV,hdc]))) sh_n) ka ?_
   rintro r h' ⟨rfl,rfl⟩
   rw [back_one (by simp [V.closed,tl,nilV,hdc,closed_colV])]
   refine Wf0 @ren_tup0 ?_
   exact FnQ.ret rfl (by simp [V.closed,V.closeds,tl,nilV,hdc,closed_colV])
  ·rw [if_neg h3] at kof
   have ka:=marks_a hL (kind:=kd) (m:=nilV) (over:=0) (d:=colV db) (M:=M) (c:=some m) (n:=n) (w:=w) (most:=most) (skips:=skips) rfl hdc (by omega) (by omega) (by omega) hm
   simp only [if_neg h3]
   generalize colL M w 0 n=R at *
   by_cases hmo:most < R.length
   ·rw [if_pos hmo] at ka ⊢
    unfold rdC at ka ⊢
    simp only [show colV []=nilV from rfl]
    refine Wf1 hmr kof ?_
    refine opsP_frm [1] rfl rfl rfl rfl (sh_c (congrArg some (blk_ren (by simp [V.closed,tl,nilV,hdc]))) sh_n) ka ?_
    rintro r h' ⟨rfl,rfl⟩
    rw [back_one (by simp [V.closed,tl,nilV,hdc,closed_colV])]
    refine Wf0 @ren_tup0 ?_
    exact FnQ.ret rfl (by simp [V.closed,V.closeds,tl,nilV,hdc,closed_colV])
   ·rw [if_neg hmo] at ka ⊢
    unfold rdC at ka ⊢
    refine Wf1 hmr kof ?_
    refine opsP_frm [1] rfl rfl rfl rfl (sh_c (congrArg some (blk_ren (by simp [V.closed,tl,nilV,hdc]))) sh_n) ka ?_
    rintro r h' ⟨rfl,rfl⟩
    rw [back_one (by simp [V.closed,tl,nilV,hdc,closed_colV])]
    refine Wf0 @ren_tup0 ?_
    exact FnQ.ret rfl (by simp [V.closed,V.closeds,tl,nilV,hdc,closed_colV])
theorem read_dbt {kd:Int} {n w most:Nat} {skips:Int} {M D:List Bool} {RES:Rg×Int} (hm:M.length=n*w) (hd:D.length=n*w) (hn1:1≤n) (hn2:n≤10) (hw1:w≤11) (hw2:1≤w) (hres:RES=resR kd (some (M,D)) n w most skips) :
    SWP L 0 T147.val.ntmps T147.val.body.r.r.r.r.r.r.r.r.r.r.l.r.l
    (qB T147.val.body.r.r.r.r.r.r.r.r.r.r.l.r.id
     (qN L 0 T147.val.ntmps T147.val.body.r.r.r.r.r.r.r.r.r.r.r
      (FnQ T147.val 0 fun r' H'=>r'=V.tup [V.agg (rgC RES.fst),V.int IntKind.i64 RES.snd]∧H'=[])))
    [(8,.ptr 0 4 0 0),(10,.int .u8 kd),(14,.ptr 2 9 0 0),(169,.ref 3 1 0 (n*w) (some (n*w))),(170,.int .i64 (n*w:Nat)),(171,.int .i64 0)]
    (rH (.lst 0 [] (some 0)) M n w most skips D):=by
 have hm110:n*w≤110:=Nat.mul_le_mul hn2 hw1
 refine wCntH rfl 171 (n*w) (fun _=>[]) (fun j=>rH (accV 4 1 (dbL D j)) M n w most skips D++colT (dbL D j)) (fun _=>True) rfl rfl trivial ?_ ?_
 ·intro j hj _
  have hw3:=wrap_succ (show j < 9223372036854775807 by omega)
  obtain ⟨y,hy⟩:∃y,D[j]?=some y:=⟨_,List.getElem?_eq_getElem (by omega)⟩
  have hs:dbL D (j+1)=dbL D j++(if y then [(j:Int)] else []):=by
   show dbL D j++_=_
   rw [hy];rfl
  have hle:=dbL_le (D:=D) j
  rw [hs]
  generalize dbL D j=r at *
  unfold rH
  generalize hmm:n*w=m at *
  cases y with
  | false=>
   rw [if_neg (by simp),List.append_nil]
   refine Wf0 (Q5 (show (j:Int) < (m:Nat) by omega) hj hy @brow_eq hw3) ?_
   exact qR_n rfl rfl trivial
  | true=>
   rw [if_pos rfl,accV_snoc,colT_snoc]
   by_cases hr:r=[]
   ·subst hr
    rw [accV_nil,colT_nil]
    refine Wf0 (Q5 (show (j:Int) < (m:Nat) by omega) hj hy @brow_eq hw3) ?_
    exact qR_s [some 0,some 1,some 2,some 3,some 5] [] rfl rfl (sh_c rfl (sh_c (sh_b closed_brw rfl) (sh_c rfl (sh_c (sh_b closed_brw rfl) (sh_c rfl sh_n))))) trivial
   ·rw [accV_cons hr,show colT r=[some (.arr 1 (r.map mrow))] from if_neg hr]
    have hroom:(r.length+1)*8≤140737488355328:=by omega
    refine Xf0 (Q5 (show (j:Int) < (m:Nat) by omega) hj hy @brow_eq (Q2 hw3 hroom)) ?_
    exact qR_s [some 0,some 1,some 2,some 3,some 6] [] rfl rfl (sh_c rfl (sh_c (sh_b closed_brw rfl) (sh_c rfl (sh_c (sh_b closed_brw rfl) (sh_c (sh_b closed_mrow rfl) sh_n))))) trivial
 ·intro _
  have hdb:=dbL_le (D:=D) (n*w)
  unfold resR at hres
  simp only [hd] at hres
  generalize hdbe:dbL D (n*w)=db at *
  have key:=read_end hL (kd:=kd) (n:=n) (w:=w) (most:=most) (skips:=skips) (M:=M) (D:=D) (db:=db) (RES:=RES) hm rfl hn2 hw1 hw2 hres
  generalize hmm:n*w=m at *
  have hfz:∀H:Heap,∀src,posIn src 1 0=none→posIn src 3 0=none→H.get 1=some (.arr 1 (M.map brow))→V.ren (sgOf H src [1,3,4]) (.ref 1 1 0 m (some m))=tl brow 1 M (some m):=fun H src h1 _ h=>by
   rw [←hm];exact frz_refS' closed_brw Nat.one_pos h1 rfl h
  have hfz3:∀H:Heap,∀src,posIn src 3 0=none→H.get 3=some (.arr 1 (D.map brow))→V.ren (sgOf H src [1,3,4]) (.ref 3 1 0 m (some m))=tl brow 1 D (some m):=fun H src h1 h=>by
   rw [←hd];exact frz_refS' closed_brw Nat.one_pos h1 rfl h
  show SWP L 0 _ _ _ [(8,.ptr 0 4 0 0),(10,.int .u8 kd),(14,.ptr 2 9 0 0),(169,.ref 3 1 0 m (some m)),(170,.int .i64 m),(171,.int .i64 m)] _
  by_cases hr:db=[]
  ·subst hr
   rw [accV_nil,colT_nil,List.append_nil]
   unfold rH
   rw [hmm]
   refine wShift [some 0,some 2] [1,3,4] rfl ?_ ?_ key
   ·exact congrArg (fun v=>[(8,V.ptr 0 4 0 0),(10,V.int .u8 kd),(14,V.ptr 1 9 0 0),(169,v),(170,V.int .i64 m),(171,V.int .i64 m)]) (hfz3 _ _ rfl rfl)
   ·refine sh_c rfl (sh_c (congrArg some ?_) sh_n)
    exact congrArg (fun v=>Blk.arr 9 [[.int .u8 0,nilV,.int .i64 0,nilV,v,.int .i64 n,.int .i64 w,.int .i64 most,.int .i64 skips]]) (hfz _ _ rfl rfl rfl)
  ·rw [accV_cons hr,show colT db=[some (.arr 1 (db.map mrow))] from if_neg hr]
   have hfz4:∀H:Heap,∀src,posIn src 4 0=none→H.get 4=some (.arr 1 (db.map mrow))→V.ren (sgOf H src [1,3,4]) (.ref 4 1 0 db.length none)=colV db:=fun H src h1 h=>by
    rw [show colV db=tl mrow 1 db none from if_neg hr]
    exact frz_refS' closed_mrow Nat.one_pos h1 rfl h
   unfold rH
   rw [hmm]
   refine wShift [some 0,some 2] [1,3,4] rfl ?_ ?_ key
   ·exact congrArg (fun v=>[(8,V.ptr 0 4 0 0),(10,V.int .u8 kd),(14,V.ptr 1 9 0 0),(169,v),(170,V.int .i64 m),(171,V.int .i64 m)]) (hfz3 _ _ rfl rfl)
   ·refine sh_c rfl (sh_c (congrArg some ?_) sh_n)
    exact congr (congrArg (fun u v=>Blk.arr 9 [[.int .u8 0,nilV,.int .i64 0,u,v,.int .i64 n,.int .i64 w,.int .i64 most,.int .i64 skips]]) (hfz4 _ _ rfl rfl)) (hfz _ _ rfl rfl rfl)
theorem read_dec {kd:Int} {n w most:Nat} {skips:Int} {s2:Nat} {ds:List (Int×Bool)} {k2:Option Nat} {M0 D0:List Bool} {RES:Rg×Int} (hm:M0.length=n*w) (hd:D0.length=n*w) (hn1:1≤n) (hn2:n≤10) (hw1:w≤11) (hw2:1≤w) (hs2:s2=2∨ds=[]) (hl:ds.length < 4611686018427387904) (hres:RES=resR kd (decL ds M0 D0) n w most skips) :
    SWP L 0 T147.val.ntmps T147.val.body.r.r.r.r.r.r.r.r.r.l.r.l
    (qB T147.val.body.r.r.r.r.r.r.r.r.r.l.r.id
     (qN L 0 T147.val.ntmps T147.val.body.r.r.r.r.r.r.r.r.r.r
      (FnQ T147.val 0 fun r' H'=>r'=V.tup [V.agg (rgC RES.fst),V.int IntKind.i64 RES.snd]∧H'=[])))
    [(8,.ptr 0 4 0 0),(10,.int .u8 kd),(14,.ptr 2 9 0 0),(15,.ref 3 1 0 (n*w) (some (n*w))),(130,tl drow s2 ds k2),(131,.int .i64 ds.length),(132,.int .i64 0)]
    (rH (.lst 0 [] (some 0)) M0 n w most skips D0):=by
 generalize hr:decL ds M0 D0=res at *
 generalize hmm:n*w=m at *
 refine wWhile rfl (fun s:Nat×List Bool×List Bool=>[(8,.ptr 0 4 0 0),(10,.int .u8 kd),(14,.ptr 2 9 0 0),(15,.ref 3 1 0 m (some m)),(130,tl drow s2 ds k2),(131,.int .i64 ds.length),(132,.int .i64 s.1)]) (fun s=>rH (.lst 0 [] (some 0)) s.2.1 n w most skips s.2.2) (fun s=>ds.length - s.1) (DecI ds m res) (0,M0,D0) rfl rfl ⟨Nat.zero_le _,hm,hd,hr⟩ ?_
 rintro ⟨j,M,D⟩ ⟨i1,i2,i3,i4⟩
 simp only at i1 i2 i3 i4
 unfold rH
 rw [hmm]
 by_cases hj:j < ds.length
 ·obtain ⟨⟨b,mk⟩,hx,-⟩:=get_of hj
  obtain rfl:=size_of hs2 hj
  rw [drop_atG hx] at i4
  unfold decL at i4
  have hwj:=wrap_succ (show j < 9223372036854775807 by omega)
  by_cases hb0:b < 0
  ·rw [if_pos (.inl hb0)] at i4
   subst i4
   unfold resR at hres
   subst hres
   refine Wf0 (Q5 (show (j:Int) < ds.length by omega) (iT hj) hx @drow_eq hb0) ?_
   exact FnQ.ret rfl rfl
  ·by_cases hb1:(D.length:Int)≤b
   ·rw [if_pos (.inr hb1)] at i4
    subst i4
    unfold resR at hres
    subst hres
    refine Wf0 (Q5 (show (j:Int) < ds.length by omega) (iT hj) hx @drow_eq (Q2 hb0 (show (m:Int)≤b by omega))) ?_
    exact FnQ.ret rfl rfl
   ·obtain ⟨a,rfl⟩:∃a:Nat,b=a:=⟨b.toNat,by omega⟩
    rw [if_neg (by simp only;omega)] at i4
    have ha:a < m:=by omega
    obtain ⟨y,hy⟩:∃y,D[a]?=some y:=⟨_,List.getElem?_eq_getElem (by omega)⟩
    obtain ⟨y',hy'⟩:∃y,M[a]?=some y:=⟨_,List.getElem?_eq_getElem (by omega)⟩
    simp only [Int.toNat_natCast,hy,Option.getD_some] at i4
    cases y with
    | false=>
     rw [if_neg (by simp)] at i4
     subst i4
     unfold resR at hres
     subst hres
     refine Wf0 (Q5 (show (j:Int) < ds.length by omega) (iT hj) hx @drow_eq (Q5 hb0 (show ¬(m:Int)≤a by omega) ha hy @brow_eq)) ?_
     exact FnQ.ret rfl rfl
    | true=>
     rw [if_pos rfl] at i4
     refine Wf0 (Q5 (show (j:Int) < ds.length by omega) (iT hj) hx @drow_eq (Q5 hb0 (show ¬(m:Int)≤a by omega) ha hy @brow_eq)) ?_
     refine wDrawD rfl ?_
     refine dops_op rfl rfl rfl rfl (by kernel_rfl) ?_;refine dops_op rfl rfl rfl rfl (by kernel_rfl) ?_;refine dops_op rfl rfl rfl rfl (by kernel_rfl) ?_;refine dops_op rfl rfl rfl rfl (by kernel_rfl) ?_;refine dops_op rfl rfl rfl rfl (by kernel_rfl) ?_
     simp only [seval,push_cast,↓reduceIte,↓bP_some,↓aP_true,reduceCtorEq,happ_eq,upds_nil,upds_cons,List.map_nil,List.append_nil]
     refine dops_op rfl rfl rfl rfl (by kernel_rfl) ?_;refine dops_op rfl rfl rfl rfl (by kernel_rfl) ?_;refine dops_op rfl rfl rfl rfl (by kernel_rfl) ?_;refine dops_op rfl rfl rfl rfl (by kernel_rfl) ?_;refine dops_op rfl rfl rfl rfl (by kernel_rfl) ?_
     simp only [seval,push_cast,↓reduceIte,↓bP_some,↓aP_true,reduceCtorEq,happ_eq,upds_nil,upds_cons,List.map_nil,List.append_nil]
     refine dops_op rfl rfl rfl rfl (by kernel_rfl) ?_
     refine dops_iaR (j:=a) (a:=1) (m:=m) rfl rfl ha (by kernel_rfl) ?_
     refine dops_stR (j:=a) (rows:=M.map brow) (u:=.bool y') rfl rfl rfl rfl rfl (by rw [List.getElem?_map,hy'];rfl) rfl (by kernel_rfl) ?_
     refine dops_iaR (j:=a) (a:=3) (m:=m) rfl rfl ha (by kernel_rfl) ?_
     refine dops_stR (j:=a) (rows:=D.map brow) (u:=.bool true) rfl rfl rfl rfl rfl (by rw [List.getElem?_map,hy];rfl) rfl (by kernel_rfl) ?_
     refine dops_nil ?_
     refine Wf0 (Q2 @brow_set' hwj) ?_
     refine qW_s (j+1,M.set a mk,D.set a false) [some 0,some 1,some 2,some 3] [] rfl rfl ?_ ⟨by simp only;omega,by simp only;omega,by simp only [List.length_set];omega,by simp only [List.length_set];omega,i4⟩
     exact sh_c rfl (sh_c (sh_b closed_brw rfl) (sh_c rfl (sh_c (sh_b closed_brw rfl) sh_n)))
 ·refine Wf0 (show ¬(j:Int) < ds.length by omega) ?_
  obtain rfl:j=ds.length:=by omega
  rw [List.drop_length] at i4
  unfold decL at i4
  subst i4
  subst hmm
  exact read_dbt hL i2 i3 hn1 hn2 hw1 hw2 hres
end Go.Proofs.YtigdhgbkgfagiaaGreat
