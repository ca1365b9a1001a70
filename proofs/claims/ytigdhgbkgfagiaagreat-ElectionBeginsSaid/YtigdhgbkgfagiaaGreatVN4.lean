/- Numbers: Len32, LeadingZeros32, by the library, walked. · Ranges over functions, rounds, calls of whatever is called: what walks need of them. (On seats with Cs1 or Wg6 these stand there.) · Numbers: shifted, by the program, walked. · Numbers: the guess of a digit, by the program, walked. · Numbers: takes (a multiple taken away in place), by the program, walked. · Numbers: the divisor shifted; the remainder shifted back. Nothing of the program is named here. · Numbers: trim on memory, by the program, walked. -/
import Derived.Test.YtigdhgbkgfagiaaGreatVM2
import Derived.Test.YtigdhgbkgfagiaaGreatVN3
import Derived.Test.YtigdhgbkgfagiaaGreatVQ2
import Derived.Test.YtigdhgbkgfagiaaGreatVM1
import Derived.Test.YtigdhgbkgfagiaaGreatVA2
set_option maxRecDepth 100000
set_option maxHeartbeats 4000000
set_option linter.unusedVariables false
set_option linter.unusedSimpArgs false
namespace Go.Proofs.YtigdhgbkgfagiaaGreat
def tab8:List UInt8:=[0,1,2,2,3,3,3,3,4,4,4,4,4,4,4,4,5,5,5,5,5,5,5,5,5,5,5,5,5,5,5,5,6,6,6,6,6,6,6,6,6,6,6,6,6,6,6,6,6,6,6,6,6,6,6,6,6,6,6,6,6,6,6,6,7,7,7,7,7,7,7,7,7,7,7,7,7,7,7,7,7,7,7,7,7,7,7,7,7,7,7,7,7,7,7,7,7,7,7,7,7,7,7,7,7,7,7,7,7,7,7,7,7,7,7,7,7,7,7,7,7,7,7,7,7,7,7,7,8,8,8,8,8,8,8,8,8,8,8,8,8,8,8,8,8,8,8,8,8,8,8,8,8,8,8,8,8,8,8,8,8,8,8,8,8,8,8,8,8,8,8,8,8,8,8,8,8,8,8,8,8,8,8,8,8,8,8,8,8,8,8,8,8,8,8,8,8,8,8,8,8,8,8,8,8,8,8,8,8,8,8,8,8,8,8,8,8,8,8,8,8,8,8,8,8,8,8,8,8,8,8,8,8,8,8,8,8,8,8,8,8,8,8,8,8,8,8,8,8,8,8,8,8,8,8,8]
def lenB (x m:Nat):Bool:=Nat.blt x (2 ^ m)&&(Nat.beq x 0||(Nat.ble 1 m&&Nat.ble (2 ^ (m - 1)) x))
theorem tab8_all:((List.range 256).all fun x=>match tab8[x]? with|some b=>lenB x b.toNat&&Nat.ble b.toNat 8|none=>false)=true:=by kernel_rfl
theorem tab8_ok {x:Nat} (h:x < 256):∃b:UInt8,tab8[x]?=some b∧LenOk x b.toNat∧b.toNat≤8:=by
 have:=List.all_eq_true.1 tab8_all x (List.mem_range.2 h)
 cases hb:tab8[x]? with
 | none=>rw [hb] at this;cases this
 | some b=>
  rw [hb] at this
  simp only [Bool.and_eq_true] at this
  obtain ⟨h1,h2⟩:=this
  refine ⟨b,rfl,?_,Nat.le_of_ble_eq_true h2⟩
  unfold lenB at h1
  rw [Bool.and_eq_true,Bool.or_eq_true,Bool.and_eq_true] at h1
  refine ⟨Nat.le_of_ble_eq_true h1.1,fun h0=>?_⟩
  rcases h1.2 with e|⟨e1,e2⟩
  ·have:=Nat.eq_of_beq_eq_true e;omega
  ·exact ⟨Nat.le_of_ble_eq_true e1,Nat.le_of_ble_eq_true e2⟩
theorem wrap_n8 {n:Nat} (h:n < 256):IntKind.u8.wrap (n:Int)=n:=by
 simp only [IntKind.wrap,IntKind.bits,IntKind.signed,Bool.false_and,if_false,Bool.false_eq_true]
 omega
variable {L:Lib} (hL:L.T=tab.get)
include hL
theorem len_a {y m:Nat} {b:UInt8} {x z:Nat} (h1:(65536:Int)≤x) (s1:binV .shr (.int .u32 (x:Int)) (.int .u64 16)=some (.int .u32 (z:Int))) (h2:(256:Int)≤z) (s2:binV .shr (.int .u32 (z:Int)) (.int .u64 8)=some (.int .u32 (y:Int))) (hy:y < 256) (hb:tab8[y]?=some b) (h8:b.toNat≤8) (hm:m=b.toNat+24):VFn L 225 [.int .u32 x] (.int .i64 m):=by
 refine VFn.start (F:=T225.1) (by rw [hL];rfl) rfl rfl rfl ?_
 have w8:IntKind.u8.wrap (y:Int)=(y:Int):=wrap_n8 hy
 have w0:IntKind.i64.wrap 24=24:=by decide
 refine Wf0 (Q5 h1 h2 s1 s2 (Q2 w0 w8)) ?_
 refine ⟨V.int .u8 (b.toNat:Int),congrArg (Option.map fun b:UInt8=>V.int IntKind.u8 (b.toNat:Int)) hb,?_⟩
 have w1:=wrap_nat (n:=b.toNat) (by omega)
 have w2:IntKind.i64.wrap (24+(b.toNat:Int))=(m:Int):=by rw [wrap_i64 (by omega) (by omega)];omega
 refine Wf0 (Q2 w1 w2) ?_
 exact FnQ.ret rfl rfl
theorem len_b {y m:Nat} {b:UInt8} {x:Nat} (h1:(65536:Int)≤x) (s1:binV .shr (.int .u32 (x:Int)) (.int .u64 16)=some (.int .u32 (y:Int))) (h2:¬(256:Int)≤y) (hy:y < 256) (hb:tab8[y]?=some b) (h8:b.toNat≤8) (hm:m=b.toNat+16):VFn L 225 [.int .u32 x] (.int .i64 m):=by
 refine VFn.start (F:=T225.1) (by rw [hL];rfl) rfl rfl rfl ?_
 have w8:IntKind.u8.wrap (y:Int)=(y:Int):=wrap_n8 hy
 refine Wf0 (Q4 h1 h2 s1 w8) ?_
 refine ⟨V.int .u8 (b.toNat:Int),congrArg (Option.map fun b:UInt8=>V.int IntKind.u8 (b.toNat:Int)) hb,?_⟩
 have w1:=wrap_nat (n:=b.toNat) (by omega)
 have w2:IntKind.i64.wrap (16+(b.toNat:Int))=(m:Int):=by rw [wrap_i64 (by omega) (by omega)];omega
 refine Wf0 (Q2 w1 w2) ?_
 exact FnQ.ret rfl rfl
theorem len_c {y m:Nat} {b:UInt8} {x:Nat} (h1:¬(65536:Int)≤x) (h2:(256:Int)≤x) (s2:binV .shr (.int .u32 (x:Int)) (.int .u64 8)=some (.int .u32 (y:Int))) (hy:y < 256) (hb:tab8[y]?=some b) (h8:b.toNat≤8) (hm:m=b.toNat+8):VFn L 225 [.int .u32 x] (.int .i64 m):=by
 refine VFn.start (F:=T225.1) (by rw [hL];rfl) rfl rfl rfl ?_
 have w8:IntKind.u8.wrap (y:Int)=(y:Int):=wrap_n8 hy
 have w0:IntKind.i64.wrap 8=8:=by decide
 refine Wf0 (Q5 h1 h2 s2 w0 w8) ?_
 refine ⟨V.int .u8 (b.toNat:Int),congrArg (Option.map fun b:UInt8=>V.int IntKind.u8 (b.toNat:Int)) hb,?_⟩
 have w1:=wrap_nat (n:=b.toNat) (by omega)
 have w2:IntKind.i64.wrap (8+(b.toNat:Int))=(m:Int):=by rw [wrap_i64 (by omega) (by omega)];omega
 refine Wf0 (Q2 w1 w2) ?_
 exact FnQ.ret rfl rfl
theorem len_d {y m:Nat} {b:UInt8} (h1:¬(65536:Int)≤y) (h2:¬(256:Int)≤y) (hy:y < 256) (hb:tab8[y]?=some b) (h8:b.toNat≤8) (hm:m=b.toNat+0):VFn L 225 [.int .u32 y] (.int .i64 m):=by
 refine VFn.start (F:=T225.1) (by rw [hL];rfl) rfl rfl rfl ?_
 have w8:IntKind.u8.wrap (y:Int)=(y:Int):=wrap_n8 hy
 refine Wf0 (Q3 h1 h2 w8) ?_
 refine ⟨V.int .u8 (b.toNat:Int),congrArg (Option.map fun b:UInt8=>V.int IntKind.u8 (b.toNat:Int)) hb,?_⟩
 have w1:=wrap_nat (n:=b.toNat) (by omega)
 have w2:IntKind.i64.wrap (0+(b.toNat:Int))=(m:Int):=by rw [wrap_i64 (by omega) (by omega)];omega
 refine Wf0 (Q2 w1 w2) ?_
 exact FnQ.ret rfl rfl
theorem nlen_v {x:Nat} (hx:x < W32):∃m:Nat,LenOk x m∧VFn L 225 [.int .u32 x] (.int .i64 m):=by
 have hW:W32=4294967296:=rfl
 by_cases c1:65536≤x
 ·have s1:binV .shr (.int .u32 (x:Int)) (.int .u64 16)=some (.int .u32 ((x / 2 ^ 16:Nat):Int)):=shr_i (s:=16) (by decide)
  have e16:x / 2 ^ 16=x / 65536:=rfl
  rw [e16] at s1
  by_cases c2:256≤x / 65536
  ·have s2:binV .shr (.int .u32 ((x / 65536:Nat):Int)) (.int .u64 8)=some (.int .u32 ((x / 65536 / 2 ^ 8:Nat):Int)):=shr_i (s:=8) (by decide)
   rw [show x / 65536 / 2 ^ 8=x / 65536 / 256 from rfl] at s2
   obtain ⟨b,hb,hl,h8⟩:=tab8_ok (x:=x / 65536 / 256) (by omega)
   exact ⟨_,len_shift (s:=16) (len_shift (s:=8) hl c2) c1,len_a hL (by omega) s1 (by omega) s2 (by omega) hb h8 (by omega)⟩
  ·obtain ⟨b,hb,hl,h8⟩:=tab8_ok (x:=x / 65536) (by omega)
   exact ⟨_,len_shift (s:=16) hl c1,len_b hL (by omega) s1 (by omega) (by omega) hb h8 rfl⟩
 ·by_cases c2:256≤x
  ·have s2:binV .shr (.int .u32 (x:Int)) (.int .u64 8)=some (.int .u32 ((x / 2 ^ 8:Nat):Int)):=shr_i (s:=8) (by decide)
   rw [show x / 2 ^ 8=x / 256 from rfl] at s2
   obtain ⟨b,hb,hl,h8⟩:=tab8_ok (x:=x / 256) (by omega)
   exact ⟨_,len_shift (s:=8) hl c2,len_c hL (by omega) (by omega) s2 (by omega) hb h8 rfl⟩
  ·obtain ⟨b,hb,hl,h8⟩:=tab8_ok (x:=x) (by omega)
   exact ⟨_,hl,len_d hL (by omega) (by omega) (by omega) hb h8 rfl⟩
theorem nlz_v {x:Nat} (h0:0 < x) (hx:x < W32):∃k:Nat,(k < 32∧W32≤2*(x*2 ^ k)∧x*2 ^ k < W32)∧VFn L 217 [.int .u32 x] (.int .i64 k):=by
 obtain ⟨m,hm,hv⟩:=nlen_v hL hx
 obtain ⟨h1,h2,h3,h4⟩:=len_norm hm h0 hx
 refine ⟨32 - m,⟨by omega,h3,h4⟩,?_⟩
 have w:IntKind.i64.wrap (32 - (m:Int))=((32 - m:Nat):Int):=by rw [wrap_i64 (by omega) (by omega)];omega
 generalize 32 - m=k at *
 refine VFn.start (F:=T217.1) (by rw [hL];rfl) rfl rfl rfl ?_
 refine Wf1 w hv ?_
 exact FnQ.ret rfl rfl
end Go.Proofs.YtigdhgbkgfagiaaGreat
namespace Go.Proofs.YtigdhgbkgfagiaaGreat
theorem AFn.shift {L:Lib} {k:Tgt} {args:List V} {H:Heap} {P:V→Heap→Prop} (h:AFn L k args H (fun r H'=>∃src fz,okSh H.length src=true∧P (r.ren (sgOf H' src fz)) (H'.sh src fz))):AFn L k args H P:=by
 intro C hC A w β vs hA hd hh hg ha
 refine (h C hC A w β vs hA hd hh hg ha).mono ?_
 rintro e w' ⟨v,r,H',β',h1,⟨src,fz,hok,hp⟩,h3,h4,h5,h6,h7,h8,h9⟩
 simp only [okSh,Bool.and_eq_true,List.all_eq_true] at hok
 obtain ⟨hn,hall⟩:=hok
 have hid:∀i,i < H.length→src[i]?=some (some i):=fun i hi=>by
  have:=hall i (List.mem_range.2 hi)
  split at this
  ·rename_i j hj
   have:j=i:=by simpa using this
   rw [hj,this]
  ·cases this
 have hlive:∀b,Live (shβ src β') (H'.sh src fz).get b→Live β' H'.get b:=fun b hb=>by
  obtain ⟨k,a,h1,h2,h3⟩:=sh_live (Agr.self H' src fz) hb
  exact ⟨a,h2,h3⟩
 have himm:∀b,Imm A w' β' H'.get b→Imm A w' (shβ src β') (H'.sh src fz).get b:=fun b hb=>⟨hb.lt,fun h=>hb.free (hlive b h),hb.al,hb.arr⟩
 have hren:RenOk C.N w' (Imm A w' (shβ src β') (H'.sh src fz).get) (sgOf H' src fz) β' (shβ src β'):=sh_renOk (Agr.self H' src fz) h6 himm (fun a b s rows h1 h2 h3 h4=>by
  have h3':H'.get a≠none:=by rw [h3];simp
  obtain ⟨b',g1,g2,g3⟩:=h6.at' a _ h3
  rw [h4] at g1;cases g1
  refine ⟨g2,fun hl=>?_,hA b (h8 b ⟨a,h3',h4⟩),?_⟩
  rotate_left
  ·obtain ⟨cells,T,fz',q1,_⟩:=g3
   exact ⟨cells,T,fz',q1⟩
  ·obtain ⟨k,a',g1,g2,g3⟩:=sh_live (Agr.self H' src fz) hl
   have:=h6.inj a a' b h3' g2 h4 g3
   subst this
   exact posIn_none h2 k g1)
 refine ⟨v,_,_,shβ src β',h1,hp,?_,fun i hi=>?_,fun i hi=>?_,sh_heap (Agr.self H' src fz) hn h6 himm hren,h7.ren himm hren,fun b hb=>h8 b (hlive b hb),h9⟩
 ·unfold Heap.sh
  rw [List.length_map]
  rcases Nat.eq_zero_or_pos H.length with h0|h0
  ·omega
  ·have:=(List.getElem?_eq_some_iff.1 (hid (H.length - 1) (by omega))).1;omega
 ·have:src[i]?=none:=List.getElem?_eq_none (by unfold Heap.sh at hi;simpa using hi)
  simp [shβ,this]
 ·rw [shβ_to (hid i hi)];exact h5 i hi
theorem opsP_any {L:Lib} {l:List AI} {K:Env→Heap→Prop} {E:Env} {H:Heap} {d:Option Nat} {anc:List Nat} {c:ACallee} {args:List AOpd} {k:Tgt} {vs:List V} {Post:V→Heap→Prop} (hv:callee L.G E.get c args=some (k,vs)) (hf:AFn L k vs H Post) (h:∀r h',Post r h'→opsP L l K (E.put d r) h'):opsP L (⟨d,.call c args,none,anc⟩::l) K E H:=by
 show stepP L ⟨d,.call c args,none,anc⟩ (opsP L l K) E H
 unfold stepP AI.goes
 show CallP L E.get H c args _
 unfold CallP
 rw [hv]
 exact hf.mono h
section
variable {L:Lib} {n0 nt a:Nat} {ps:List Nat} {ad body:AC} {E0 E:Env} {H:Heap} {Q:Exit→Env→Heap→Prop} {Post:V→Heap→Prop}
theorem roundA_n:RoundA L n0 nt body Q .normal E H=SWP L n0 nt body Q E H:=rfl
theorem roundQ_n:RoundQ a nt E0 ps ad body Post .normal E H=(H.get a=none∧Post (.bool true) (H.set a (some (.loop nt E0 ps ad body)))):=rfl
end
attribute [push_cast] roundA_n roundQ_n
theorem opsP_lendN {L:Lib} {l:List AI} {K:Env→Heap→Prop} {E:Env} {H:Heap} {d:Option Nat} {anc:List Nat} (bor:List Nat) {k:Nat} {args:List AOpd} {vs vs':List V} {r:V} (hv:evals (opval L.G E.get) args=some vs) (hvs:vs.map (V.ren (sgOf H [] bor))=vs') (hf:VFn L k vs' r) (hr:r.noLst=true) (h:opsP L l K (E.put d r) H):opsP L (⟨d,.call (.fn k) args,none,anc⟩::l) K E H:=by
 show stepP L ⟨d,.call (.fn k) args,none,anc⟩ (opsP L l K) E H
 unfold stepP AI.goes
 show CallP L E.get H (.fn k) args _
 unfold CallP callee
 rw [hv]
 show AFn L (.fn k) vs H _
 refine AFn.frame (k':=.fn k) [] bor rfl rfl rfl ?_
 show AFn L (.fn k) (vs.map (V.ren (sgOf H [] bor))) [] _
 rw [hvs]
 refine AFn.mono hf.2.2 ?_
 rintro r' H' ⟨rfl,rfl⟩
 refine ⟨by simp [outOk,hr],?_⟩
 rw [V.ren_closed _ hf.2.1]
 have e2:H.back [] []=H:=by simp [Heap.back,Heap.upds]
 rw [e2];exact h
theorem opval_f {G E:Nat→Option V} {n:Nat}:opval G E (.f n)=some (.fn n [] []):=rfl
attribute [push_cast] opval_f
theorem ren_tup0 {σ:Nat→Sg}:V.ren σ (.tup [])=.tup []:=rfl
end Go.Proofs.YtigdhgbkgfagiaaGreat
namespace Go.Proofs.YtigdhgbkgfagiaaGreat
theorem rowsOf_tl' {s:Nat} {l:List Nat} {c:Option Nat} {g:Nat→Option Blk}:rowsOf s g (tl nrow s l c)=some (l.map nrow,[]):=by
 unfold tl
 simp [rowsOf]
theorem copy_a {a:List Nat} {c cc:Option Nat}:copyV 1 (shG 1 (Heap.get [some (Blk.arr 1 ([V.int .u32 0]::List.replicate a.length [V.int .u32 0]))])) (.ref 0 1 0 (a.length+1) cc) (tl nrow 1 a c)=some { v:=.int .i64 a.length,need:=[0],upd:=[(0,some (.arr 1 ((a++[0]).map nrow)))] }:=by
 have h:shG 1 (Heap.get [some (Blk.arr 1 ([V.int .u32 0]::List.replicate a.length [V.int .u32 0]))]) 0=some (.arr 1 ([V.int .u32 0]::List.replicate a.length [V.int .u32 0])):=rfl
 have e:over ([V.int .u32 0]::List.replicate a.length [V.int .u32 0]) 0 ((a.map nrow).take (a.length+1))=(a++[0]).map nrow:=by
  rw [List.take_of_length_le (by simp)]
  unfold over
  rw [show [V.int IntKind.u32 0]::List.replicate a.length [V.int .u32 0]=List.replicate (a.length+1) [V.int .u32 0] from rfl]
  simp [nrow_eq]
 simp only [copyV,rowsOf_tl',Option.bind_some]
 rw [h]
 dsimp only
 rw [if_pos (by simp),e]
 simp
variable {L:Lib} (hL:L.T=tab.get)
include hL
theorem shifted_m {k:Nat} {a:List Nat} {c:Option Nat} (ka:limOk a) (hk:k < 32) (hl:a.length≤1000):MFn L 218 [tl nrow 1 a c,.int .i64 k] (.ref 0 1 0 (a.length+1) (some (a.length+1))) [some (.arr 1 ((shL a k).map nrow))]:=by
 refine ⟨rfl,AFn.of_body (F:=T218.1) (by rw [hL];rfl) rfl ?_⟩
 have hw:=wrap_succ (show a.length < 9223372036854775807 by omega)
 have hroom:(a.length+1)*4≤140737488355328:=by omega
 have hroom2:a.length+1 < 9223372036854775808:=by omega
 refine Wf0 (Q3 hw hroom hroom2) ?_
 rw [copy_a,bP_some]
 (repeat' (first|refine Z0 ?_|refine Z1 ?_|refine Z2 ?_|simp only [seval,push_cast,↓reduceIte,↓bP_some,↓aP_true,reduceCtorEq,happ_eq,upds_nil,upds_cons,List.map_cons,List.map_nil,List.all_nil,List.append_nil]))
 have hs0:(((a.length+1:Nat):Int) - 1)=(a.length:Int):=by omega
 refine wWhile rfl (fun i:Nat=>[(1,V.int IntKind.i64 (k:Int)),(5,V.ref 0 1 0 (a.length+1) (some (a.length+1))),(6,V.int IntKind.i64 ((i:Int) - 1))]) (fun i=>[some (Blk.arr 1 ((shB a k i).map nrow))]) (fun i=>i) (fun i=>i≤a.length+1) (a.length+1) (by show _=[(1,V.int IntKind.i64 (k:Int)),(5,V.ref 0 1 0 (a.length+1) (some (a.length+1))),(6,V.int IntKind.i64 (((a.length+1:Nat):Int) - 1))];rw [hs0]) (by rw [shB_start]) (Nat.le_refl _) ?_
 intro i hi
 cases i with
 | zero=>
  have h0:¬(0:Int)≤0 - 1:=by omega
  rw [shB_end]
  refine Wf0 h0 ?_
  exact FnQ.at rfl ⟨rfl,rfl⟩
 | succ i=>
  have hin:i≤a.length:=by omega
  have hib:i < a.length+1:=by omega
  have h0:(0:Int)≤(i:Int):=by omega
  have wk:IntKind.i64.wrap ((i:Int) - 1)=(i:Int) - 1:=wrap_i64 (by omega) (by omega)
  have hT:=pad_len (a:=a) hin
  have hxl:=lmb_lt ka i
  have s1:binV .shl (.int .u32 (lmb a i:Int)) (.int .i64 (k:Int))=some (.int .u32 ((lmb a i*2 ^ k % W32:Nat):Int)):=by rw [shl_i (k:=.u32) (by show k≤32;omega),wrap_u32]
  rw [shB_next hin]
  cases i with
  | zero=>
   have hsh:=shB_this (k:=k) (Nat.zero_le a.length)
   have e:shf a k 0=lmb a 0*2 ^ k % W32:=by unfold shf;simp
   rw [e] at hsh
   generalize lmb a 0*2 ^ k % W32=p at *
   generalize lmb a 0=x at *
   generalize (shL a k).drop (0+1)=D at *
   have g1:=mid_at (T:=(a++[0]).take 0) (D:=D) (x:=x) hT
   have g2:=mid_put (T:=(a++[0]).take 0) (D:=D) (x:=x) (v:=p) hT
   rw [←hsh] at g2
   generalize (a++[0]).take 0=T at *
   have h00:¬(0:Int) < 0:=by omega
   refine Wf0 (Q5 h0 hib g1 @nrow_eq (Q5 @nrow_set g2 s1 h00 (show IntKind.i64.wrap (-1)=-1 by decide))) ?_
   exact qW_n 0 rfl rfl ⟨by omega,by omega⟩
  | succ i=>
   have hsh:=shB_this (k:=k) hin
   have hyl:=lmb_lt ka i
   have gy:=fun x=>shB_prev (a:=a) (k:=k) (x:=x) (D:=(shL a k).drop (i+1+1)) hin
   have hz:lmb a i*2 ^ k < 18446744073709551616:=by
    have h1:2 ^ k≤2 ^ 32:=Nat.pow_le_pow_right (by decide) (by omega)
    have h2:(lmb a i+1)*2 ^ k≤W32*2 ^ 32:=Nat.mul_le_mul hyl h1
    have h3:W32*2 ^ 32=18446744073709551616:=by decide
    rw [Nat.succ_mul] at h2
    have:=Nat.two_pow_pos k
    omega
   have hq:=shl_lo (k:=k) hyl
   have hq2:lmb a i*2 ^ k / W32 < W32:=Nat.lt_of_lt_of_le hq (Nat.le_trans (Nat.pow_le_pow_right (by decide) (Nat.le_of_lt hk)) (by decide))
   have hp:lmb a (i+1)*2 ^ k % W32 < W32:=Nat.mod_lt _ W32_pos
   have e:shf a k (i+1)=lmb a (i+1)*2 ^ k % W32+lmb a i*2 ^ k / W32:=by unfold shf;rw [if_neg (by omega),Nat.add_sub_cancel]
   have s2:=wrap_u64 (lt64 hyl)
   have s3:binV .shl (.int .u64 (lmb a i:Int)) (.int .i64 (k:Int))=some (.int .u64 ((lmb a i*2 ^ k:Nat):Int)):=by rw [shl_i (k:=.u64) (by show k≤64;omega),wrap_u64 hz]
   have s4:=shr32_i (lmb a i*2 ^ k)
   have s5:=wrap_n32 hq2
   have s6:=or_i hp hq2
   rw [shl_or hq hk,←e] at s6
   generalize shf a k (i+1)=r at *
   generalize lmb a i*2 ^ k / W32=q at *
   generalize lmb a i*2 ^ k=z at *
   generalize lmb a (i+1)*2 ^ k % W32=p at *
   generalize lmb a (i+1)=x at *
   generalize lmb a i=y at *
   generalize (shL a k).drop (i+1+1)=D at *
   have g1:=mid_at (T:=(a++[0]).take (i+1)) (D:=D) (x:=x) hT
   have g2:=mid_put (T:=(a++[0]).take (i+1)) (D:=D) (x:=x) (v:=p) hT
   have g3:=mid_at (T:=(a++[0]).take (i+1)) (D:=D) (x:=p) hT
   have g4:=mid_put (T:=(a++[0]).take (i+1)) (D:=D) (x:=p) (v:=r) hT
   have g5:=gy p
   rw [←hsh] at g4
   generalize (a++[0]).take (i+1)=T at *
   have h0:(0:Int)≤(i:Int)+1:=by omega
   have hgt:(0:Int) < (i:Int)+1:=by omega
   have hib2:i < a.length+1:=by omega
   have wki:IntKind.i64.wrap (i:Int)=i:=wrap_nat (by omega)
   refine Wf0 (Q5 h0 hgt hib hib2 (Q5 g1 g2 g3 g4 (Q5 g5 @nrow_eq @nrow_set s1 (Q5 s2 s3 s4 s5 (Q2 s6 wki))))) ?_
   have hc:(((i+1:Nat):Int) - 1)=(i:Int):=by omega
   exact qW_n (i+1) (by show _=[(1,V.int IntKind.i64 (k:Int)),(5,V.ref 0 1 0 (a.length+1) (some (a.length+1))),(6,V.int IntKind.i64 (((i+1:Nat):Int) - 1))];rw [hc]) rfl ⟨by omega,by omega⟩
end Go.Proofs.YtigdhgbkgfagiaaGreat
namespace Go.Proofs.YtigdhgbkgfagiaaGreat
structure GuI (top d k:Nat) (s:Nat×Nat):Prop where
 e:s.1*d+s.2=top
 k:k≤s.1
 r:s.2 < W32
 q:s.1≤W32+W32
variable {L:Lib} (hL:L.T=tab.get)
include hL
theorem guess_a {o v:List Nat} {off w p top z d e P ul vl UU VV:Nat} {x y:Nat} {c cp:Option Nat} (hn:v.length=p+2) (hv1:v[p+1]?=some d) (hv2:v[p]?=some e) (ho0:o[off+(p+2)]?=some x) (ho1:o[off+(p+1)]?=some y) (ho2:o[off+p]?=some z) (ht:top=x*W32+y) (g:Gs top z d e P ul vl UU VV)
    (hx:x < W32) (hy:y < W32) (hd:d < W32) (hw:p+2 < w) (ho:off+w≤o.length) (hl:o.length < 4611686018427387904) :
    AFn L (.fn 219) [.ref 0 1 off w cp,tl nrow 1 v c] [some (.arr 1 (o.map nrow))] (fun r H'=>(∃q:Nat,(UU / VV≤q∧q≤UU / VV+1∧q < W32)∧r=.int .u64 q)∧H'=[some (.arr 1 (o.map nrow))]):=by
 refine AFn.of_body (F:=T219.1) (by rw [hL];rfl) rfl ?_
 have hlen:(v.length:Int)=(p:Int)+2:=by omega
 have hp:p < 4611686018427387904:=by omega
 have i1:IntKind.i64.wrap ((p:Int)+2 - 1)=(p:Int)+1:=by rw [wrap_i64 (by omega) (by omega)];omega
 have i2:IntKind.i64.wrap ((p:Int)+2 - 2)=(p:Int):=by rw [wrap_i64 (by omega) (by omega)];omega
 have b1:p+1 < w:=by omega
 have b2:p < w:=by omega
 have c1:p+1 < v.length:=by omega
 have c2:p < v.length:=by omega
 have q1:=wrap_u64 (lt64 hx)
 have q2:=wrap_u64 (lt64 hy)
 have q3:=wrap_u64 (lt64 g.u2)
 have q4:=wrap_u64 (lt64 hd)
 have q5:=wrap_u64 (lt64 g.v2)
 have s1:=shl32_i hx
 have s2:=or64_i hx hy
 rw [←ht] at s2
 have htl:top < 18446744073709551616:=by rw [ht];exact two_limbs hx hy
 have hd0:=g.v1_pos
 have s3:=quo_i hd0 htl
 have s4:=rem_i (z:=top) hd0
 have nt2:V.nat? (.int IntKind.i64 ((p:Int)+2))=some (p+2):=nat?_add (m:=2)
 generalize hA:x*W32=A at *
 generalize hq0:top / d=Q0 at *
 generalize hr0:top % d=R0 at *
 refine Wf0 (Q5 hlen i1 i2 hw (Q5 b1 b2 @nrow_eq ho0 (Q5 ho1 ho2 hv1 hv2 (Q5 (iT c1) (iT c2) q1 q2 (Q5 q4 s1 s2 s3 (Q2 s4 nt2)))))) ?_
 have hmod:R0 < d:=by rw [←hr0];exact Nat.mod_lt _ hd0
 have hdm:Q0*d+R0=top:=by rw [←hq0,←hr0,Nat.mul_comm];exact Nat.div_add_mod top d
 have hst:=g.start
 rw [hq0] at hst
 have hql:Q0≤W32+W32:=by
  rw [←hq0]
  refine Nat.le_trans (Nat.div_le_div_right (Nat.le_of_lt g.top_lt)) ?_
  rw [Nat.mul_add_div hd0]
  exact Nat.add_le_add_left (Nat.div_le_self _ _) _
 refine wWhile rfl (fun s:(Nat×Nat)×Bool=>if s.2=true then [(0,V.ref 0 1 off w cp),(1,tl nrow 1 v c),(5,V.int IntKind.i64 ((p:Int)+2)),(7,V.int .u64 (s.1.1:Int)),(8,V.int .u64 (s.1.2:Int)),(75,V.bool false)] else [(0,V.ref 0 1 off w cp),(1,tl nrow 1 v c),(5,V.int IntKind.i64 ((p:Int)+2)),(7,V.int .u64 (s.1.1:Int)),(8,V.int .u64 (s.1.2:Int))]) (fun _=>[some (Blk.arr 1 (o.map nrow))]) (fun s=>s.1.1) (fun s=>GuI top d (UU / VV) s.1) ((Q0,R0),false) rfl rfl ⟨hdm,hst,by show R0 < W32;omega,hql⟩ ?_
 rintro ⟨⟨q,r⟩,fl⟩ hI
 have j1:=hI.e
 have j2:=hI.k
 have j3:=hI.r
 have j4:=hI.q
 simp only at j1 j2 j3 j4
 have t1:=shr32_i q
 have hWW:W32+W32 < 18446744073709551616:=by decide
 have dec:(W32≤q∨r*W32+z < q*e)→UU / VV < q:=fun h=>g.dec j1 h
 by_cases hA:W32≤q
 ·have hdec:=dec (.inl hA)
  have hqn:¬((q / W32:Nat):Int)=0:=by
   have:0 < q / W32:=Nat.div_pos hA W32_pos
   omega
  generalize q / W32=qh at *
  have hq1:1≤q:=Nat.lt_of_le_of_lt (Nat.zero_le _) hdec
  have wq:IntKind.u64.wrap ((q:Int) - 1)=((q - 1:Nat):Int):=by rw [show ((q:Int) - 1)=((q - 1:Nat):Int) by omega];exact wrap_u64 (Nat.lt_of_le_of_lt (Nat.sub_le q 1) (Nat.lt_of_le_of_lt j4 hWW))
  have wr:=u64_add (x:=r) (n:=d) (Nat.lt_trans (Nat.add_lt_add j3 hd) hWW)
  have sh:=shr32_i (r+d)
  have k1:(q - 1)*d+(r+d)=top:=by
   obtain ⟨q',rfl⟩:∃q',q=q'+1:=⟨q - 1,by omega⟩
   rw [Nat.succ_mul] at j1
   rw [Nat.add_sub_cancel];omega
  have k2:UU / VV≤q - 1:=Nat.le_sub_one_of_lt hdec
  by_cases hbr:r+d < W32
  ·rw [Nat.div_eq_of_lt hbr] at sh
   have gi:GuI top d (UU / VV) (q - 1,r+d):=⟨k1,k2,hbr,by show q - 1≤_;omega⟩
   have hlt:q - 1 < q:=by omega
   generalize q - 1=qn at *
   generalize r+d=rn at *
   cases fl
   all_goals
    refine Wf0 (Q5 t1 hqn hlen i1 (Q5 i2 b1 b2 @nrow_eq (Q5 ho2 hv1 hv2 (iT c1) (Q5 (iT c2) q3 q4 q5 (Q4 nt2 wq wr sh))))) ?_
    exact qW_n ((qn,rn),true) rfl rfl ⟨hlt,gi⟩
  ·have hne:¬(((r+d) / W32:Nat):Int)=0:=by
     have:0 < (r+d) / W32:=Nat.div_pos (by omega) W32_pos
     omega
   have hqb:q - 1 < W32:=by
    have h1:=g.top_lt
    have h2:(q - 1)*d < W32*d:=by rw [Nat.mul_comm W32];omega
    exact Nat.lt_of_mul_lt_mul_right h2
   have fin:=g.fin k1 k2 hqb (.inr (by omega))
   generalize q - 1=qn at *
   generalize (r+d) / W32=hh at *
   generalize r+d=rn at *
   cases fl
   all_goals
    refine Wf0 (Q5 t1 hqn hlen i1 (Q5 i2 b1 b2 @nrow_eq (Q5 ho2 hv1 hv2 (iT c1) (Q5 (iT c2) q3 q4 q5 (Q5 nt2 wq wr sh hne))))) ?_
    exact FnQ.at rfl ⟨⟨qn,⟨k2,fin,hqb⟩,rfl⟩,rfl⟩
 ·have hqW:q < W32:=by omega
  rw [Nat.div_eq_of_lt hqW] at t1
  have u1:=u64_mul hqW g.v2
  have u2:=shl32_i j3
  have u3:=or64_i j3 g.u2
  have fin0:q*e≤r*W32+z→UU / VV≤q∧q≤UU / VV+1∧q < W32:=fun h=>⟨j2,g.fin j1 j2 hqW (.inl h),hqW⟩
  generalize r*W32+z=B at *
  generalize r*W32=B0 at *
  generalize q*e=M at *
  by_cases hC:B < M
  ·have hdec:=dec (.inr hC)
   have hC':(B:Int) < (M:Int):=by omega
   have hq1:1≤q:=Nat.lt_of_le_of_lt (Nat.zero_le _) hdec
   have wq:IntKind.u64.wrap ((q:Int) - 1)=((q - 1:Nat):Int):=by rw [show ((q:Int) - 1)=((q - 1:Nat):Int) by omega];exact wrap_u64 (Nat.lt_of_le_of_lt (Nat.sub_le q 1) (Nat.lt_of_le_of_lt j4 hWW))
   have wr:=u64_add (x:=r) (n:=d) (Nat.lt_trans (Nat.add_lt_add j3 hd) hWW)
   have sh:=shr32_i (r+d)
   have k1:(q - 1)*d+(r+d)=top:=by
    obtain ⟨q',rfl⟩:∃q',q=q'+1:=⟨q - 1,by omega⟩
    rw [Nat.succ_mul] at j1
    rw [Nat.add_sub_cancel];omega
   have k2:UU / VV≤q - 1:=Nat.le_sub_one_of_lt hdec
   by_cases hbr:r+d < W32
   ·rw [Nat.div_eq_of_lt hbr] at sh
    have gi:GuI top d (UU / VV) (q - 1,r+d):=⟨k1,k2,hbr,by show q - 1≤_;omega⟩
    have hlt:q - 1 < q:=by omega
    generalize q - 1=qn at *
    generalize r+d=rn at *
    cases fl
    all_goals
     refine Wf0 (Q5 t1 u1 u2 u3 (Q5 hC' hlen i1 i2 (Q5 b1 b2 @nrow_eq ho2 (Q5 hv1 hv2 (iT c1) (iT c2) (Q5 q3 q4 q5 nt2 (Q3 wq wr sh)))))) ?_
     exact qW_n ((qn,rn),true) rfl rfl ⟨hlt,gi⟩
   ·have hne:¬(((r+d) / W32:Nat):Int)=0:=by
      have:0 < (r+d) / W32:=Nat.div_pos (by omega) W32_pos
      omega
    have hqb:q - 1 < W32:=by
     have h1:=g.top_lt
     have h2:(q - 1)*d < W32*d:=by rw [Nat.mul_comm W32];omega
     exact Nat.lt_of_mul_lt_mul_right h2
    have fin:=g.fin k1 k2 hqb (.inr (by omega))
    generalize q - 1=qn at *
    generalize (r+d) / W32=hh at *
    generalize r+d=rn at *
    cases fl
    all_goals
     refine Wf0 (Q5 t1 u1 u2 u3 (Q5 hC' hlen i1 i2 (Q5 b1 b2 @nrow_eq ho2 (Q5 hv1 hv2 (iT c1) (iT c2) (Q5 q3 q4 q5 nt2 (Q4 wq wr sh hne)))))) ?_
     exact FnQ.at rfl ⟨⟨qn,⟨k2,fin,hqb⟩,rfl⟩,rfl⟩
  ·have hC':¬(B:Int) < (M:Int):=by omega
   have fin:=fin0 (by omega)
   cases fl
   all_goals
    refine Wf0 (Q5 t1 u1 u2 u3 (Q5 hC' hlen i1 i2 (Q5 b1 b2 @nrow_eq ho2 (Q5 hv1 hv2 (iT c1) (iT c2) (Q4 q3 q4 q5 nt2))))) ?_
    exact FnQ.at rfl ⟨⟨q,fin,rfl⟩,rfl⟩
end Go.Proofs.YtigdhgbkgfagiaaGreat
namespace Go.Proofs.YtigdhgbkgfagiaaGreat
variable {L:Lib} (hL:L.T=tab.get)
include hL
theorem takes_a {w off q:Nat} {o v:List Nat} {c cp:Option Nat} (ko:limOk o) (kv:limOk v) (hq:q < W32) (hw:v.length < w) (ho:off+w≤o.length) (hl:o.length < 4611686018427387904) :
    AFn L (.fn 220) [.ref 0 1 off w cp,tl nrow 1 v c,.int .u64 q] [some (.arr 1 (o.map nrow))] (fun r H'=>r=.bool (decide (tkW o off v q=1))∧H'=[some (.arr 1 ((tkO o off v q).map nrow))]):=by
 refine AFn.of_body (F:=T220.1) (by rw [hL];rfl) rfl ?_
 have hFl:=tkF_lt kv hq
 refine Wn0 ?_
 refine wCntH rfl 13 v.length (fun j=>[(7,V.int IntKind.u64 (cy (tkF v q) 0 j:Nat)),(8,V.int IntKind.u32 (bw (tkA o off) (tkB v q) 0 j:Nat))]) (fun j=>[some (Blk.arr 1 ((tkM o off v q j).map nrow))]) (fun _=>True) rfl (by rw [tkM_zero]) trivial ?_ ?_
 ·intro j hj _
  obtain ⟨x,hx,_⟩:=get_of hj
  have hoj:off+j < o.length:=by omega
  obtain ⟨y,hy,_⟩:=get_of hoj
  have hjw:j < w:=by omega
  have hj':(j:Int) < (v.length:Int):=by omega
  have hsu:=wrap_succ (show j < 9223372036854775807 by omega)
  have hxl:x < W32:=by have:=lmb_lt kv j;rwa [lmb_of hx] at this
  have hyl:y < W32:=by have:=lmb_lt ko (off+j);rwa [lmb_of hy] at this
  have hmg:=tkM_get (v:=v) (q:=q) hy
  have hms:=tkM_set (v:=v) (q:=q) hy
  have hFj:tkF v q j=q*x:=by unfold tkF;rw [lmb_of hx]
  have hAj:tkA o off j=y:=lmb_of hy
  have hBj:tkB v q j=(tkF v q j+cy (tkF v q) 0 j) % W32:=if_pos hj
  have hk:=cy_lt hFl j
  have hb:=hFl j
  have hbw:=bw_le (tkA o off) (tkB v q) (c:=0) (by decide) j
  have hsq:=W_sq
  rw [show cy (tkF v q) 0 (j+1)=(tkF v q j+cy (tkF v q) 0 j) / W32 from rfl,tk_next,hAj,hBj]
  rw [hBj] at hms
  have w1:=wrap_u64 (lt64 hxl)
  have w4:=u64_mul hq hxl
  rw [←hFj] at w4
  have w6:=u64_add (x:=cy (tkF v q) 0 j) (n:=tkF v q j) (by omega)
  rw [Nat.add_comm (cy (tkF v q) 0 j) (tkF v q j)] at w6
  have w7:=wrap_u32 (tkF v q j+cy (tkF v q) 0 j)
  have w8:=shr32_i (tkF v q j+cy (tkF v q) 0 j)
  have hsub:=sub32_v hL hyl (Nat.mod_lt (tkF v q j+cy (tkF v q) 0 j) W32_pos) hbw
  clear hb hsq hk hFj hAj hBj
  generalize bw (tkA o off) (tkB v q) 0 j=bj at *
  generalize (tkF v q j+cy (tkF v q) 0 j) % W32=p at *
  generalize (tkF v q j+cy (tkF v q) 0 j) / W32=qq at *
  generalize tkF v q j+cy (tkF v q) 0 j=r at *
  generalize tkF v q j=f at *
  generalize (y+W32 - p - bj) % W32=e at *
  generalize (if y < p+bj then 1 else 0:Nat)=bn at *
  generalize cy (tkF v q) 0 j=cj at *
  refine Wf1 (Q5 hj hj' hjw hsu (Q5 hx (iT hj) @nrow_eq @nrow_set (Q5 hmg hms w1 w4 (Q3 w6 w7 w8)))) hsub ?_
  exact qR_n rfl rfl trivial
 ·intro _
  have hoa:off+v.length < o.length:=by omega
  obtain ⟨z,hz,_⟩:=get_of hoa
  have hzl:z < W32:=by have:=lmb_lt ko (off+v.length);rwa [lmb_of hz] at this
  have hmg:=tkM_get (v:=v) (q:=q) hz
  have hms:=tkM_set (v:=v) (q:=q) hz
  have hk:=cy_lt hFl v.length
  have hbw:=bw_le (tkA o off) (tkB v q) (c:=0) (by decide) v.length
  have hAj:tkA o off v.length=z:=lmb_of hz
  have hBj:tkB v q v.length=cy (tkF v q) 0 v.length:=if_neg (Nat.lt_irrefl _)
  have hO:tkO o off v q=tkM o off v q (v.length+1):=rfl
  have hW:tkW o off v q=if z < cy (tkF v q) 0 v.length+bw (tkA o off) (tkB v q) 0 v.length then 1 else 0:=by unfold tkW;rw [tk_next,hAj,hBj]
  rw [hBj] at hms
  have w1:=wrap_n32 hk
  have hsub:=sub32_v hL hzl hk hbw
  rw [hO,hW]
  clear hAj hBj hO hW
  generalize bw (tkA o off) (tkB v q) 0 v.length=bj at *
  generalize cy (tkF v q) 0 v.length=cj at *
  generalize (z+W32 - cj - bj) % W32=e at *
  by_cases hlt:z < cj+bj
  ·rw [if_pos hlt] at hsub ⊢
   refine Xf1 (Q5 hw @nrow_eq @nrow_set hmg (Q2 hms w1)) hsub ?_
   exact FnQ.at rfl ⟨rfl,rfl⟩
  ·rw [if_neg hlt] at hsub ⊢
   refine Xf1 (Q5 hw @nrow_eq @nrow_set hmg (Q2 hms w1)) hsub ?_
   exact FnQ.at rfl ⟨rfl,rfl⟩
end Go.Proofs.YtigdhgbkgfagiaaGreat
namespace Go.Proofs.YtigdhgbkgfagiaaGreat
theorem ld_of {a b:List Nat} {k:Nat} (ka:limOk a) (kb:limOk b) (hk:k < 32) (h1:W32≤2*(lmb b (b.length - 1)*2 ^ k)) (h2:lmb b (b.length - 1)*2 ^ k < W32) (two:2≤b.length) (le:b.length≤a.length):LD a b ((shL b k).take b.length) k∧trimN (shL b k)=(shL b k).take b.length:=by
 have hl:(shL b k).length=b.length+1:=shL_len
 have hlast:shf b k (b.length - 1)=lmb b (b.length - 1)*2 ^ k % W32+(if b.length - 1=0 then 0 else lmb b (b.length - 1 - 1)*2 ^ k / W32):=rfl
 rw [Nat.mod_eq_of_lt h2] at hlast
 have hW:=W32_pos
 have ht:(shL b k).take b.length=trimN (shL b k):=by
  refine take_trim (by omega) (fun i x hi hx=>?_) (.inr ⟨_,shL_get (by omega),by omega⟩)
  have hil:=(List.getElem?_eq_some_iff.1 hx).1
  obtain rfl:i=b.length:=by omega
  rw [shL_get (Nat.le_refl _)] at hx
  rw [←Option.some.inj hx]
  unfold shf
  rw [lmb_ge (Nat.le_refl _),Nat.zero_mul,Nat.zero_mod,if_neg (by omega),Nat.div_eq_of_lt h2]
 refine ⟨⟨ka,kb,limOk_take _ (shL_ok kb hk),hk,by rw [List.length_take,hl];omega,by rw [ht,trim_val,shL_val],?_,two,le⟩,ht.symm⟩
 rw [List.length_take,hl,Nat.min_eq_left (by omega)]
 have:lmb ((shL b k).take b.length) (b.length - 1)=shf b k (b.length - 1):=lmb_of (by rw [List.getElem?_take_of_lt (by omega)];exact shL_get (by omega))
 rw [this]
 omega
def rmB (o:List Nat) (k n j:Nat):List Nat:=(List.range j).map (shr (lmb o) k)++List.replicate (n - j) 0
theorem rmB_zero {o:List Nat} {k n:Nat}:rmB o k n 0=List.replicate n 0:=by simp [rmB]
theorem rmB_all {o:List Nat} {k n:Nat}:rmB o k n n=(List.range n).map (shr (lmb o) k):=by simp [rmB]
theorem rmB_get {o:List Nat} {k n j:Nat} (h:j < n):(rmB o k n j)[j]?=some 0:=by
 unfold rmB
 rw [List.getElem?_append_right (by simp),List.length_map,List.length_range,Nat.sub_self,List.getElem?_replicate,if_pos (by omega)]
theorem rmB_set {o:List Nat} {k n j:Nat} (h:j < n):(rmB o k n j).set j (shr (lmb o) k j)=rmB o k n (j+1):=by
 unfold rmB
 rw [List.set_append_right _ _ (by simp),List.length_map,List.length_range,Nat.sub_self,List.range_succ,List.map_append,List.append_assoc]
 obtain ⟨m,hm⟩:∃m,n - j=m+1:=⟨n - j - 1,by omega⟩
 rw [hm,List.replicate_succ,List.set_cons_zero,show n - (j+1)=m by omega];rfl
theorem rmB_ok {o:List Nat} {k n:Nat}:limOk (rmB o k n n):=by
 rw [rmB_all]
 intro x hx
 obtain ⟨i,_,rfl⟩:=List.mem_map.1 hx
 exact Nat.mod_lt _ W32_pos
theorem rmB_val {o:List Nat} {k n:Nat}:valN (rmB o k n n)=sumW (shr (lmb o) k) n:=by
 rw [rmB_all,←val_sum (l:=(List.range n).map (shr (lmb o) k)) (n:=n) (by simp)]
 exact sumW_le fun i hi=>lmb_of (by simp [hi])
theorem rmB_len {o:List Nat} {k n j:Nat} (h:j≤n):(rmB o k n j).length=n:=by
 unfold rmB
 simp;omega
end Go.Proofs.YtigdhgbkgfagiaaGreat
namespace Go.Proofs.YtigdhgbkgfagiaaGreat
theorem frz_partS {α:Type} {f:α→List V} (hf:∀x,(f x).all V.closed=true) {H:Heap} {src:List (Option Nat)} {fz:List Nat} {a n:Nat} {l t:List α} {c:Option Nat} (hn:0 < n) (hp:posIn src a 0=none) (ha:fz.contains a=true) (h:H.get a=some (.arr n ((l++t).map f))):V.ren (sgOf H src fz) (.ref a n 0 l.length c)=tl f n l c:=by
 have e:sgOf H src fz a=.frz n ((l++t).map f):=by
  unfold sgOf
  simp only [hp,ha,h,closeds_tl hf,cond_true]
 rw [V.ren,e]
 have e2:((l++t).map f).take l.length=l.map f:=by rw [←List.map_take,List.take_left]
 simp only [true_and,hn,Nat.zero_add,List.length_map,List.length_append,Nat.le_add_right,and_self,if_true,List.drop_zero,e2]
 rfl
theorem trimN_pre (l:List Nat):∃t,l=trimN l++t:=by
 induction l with
 | nil=>exact ⟨[],rfl⟩
 | cons x r ih=>
  obtain ⟨t,ht⟩:=ih
  unfold trimN
  split
  ·exact ⟨x::r,rfl⟩
  ·exact ⟨t,by rw [List.cons_append,←ht]⟩
theorem sliceV_refT {n m:Nat} {k:Nat} (h:k≤n) (hm:n≤m):sliceV 1 (.ref 0 1 0 n (some m)) (some none) (some (some k)) (some (some k))=some (.ref 0 1 0 k (some k)):=by
 rw [sliceV_ref3]
 simp only [Option.getD_none,Option.getD_some,Nat.zero_le,Nat.sub_zero,Nat.add_zero,Nat.zero_add]
 rw [if_pos ⟨trivial,Nat.le_refl _,Nat.le_trans h hm⟩]
variable {L:Lib} (hL:L.T=tab.get)
include hL
theorem trim_a {l:List Nat} {m:Nat} (hm:l.length≤m) (hl:l.length < 4611686018427387904):AFn L (.fn 162) [.ref 0 1 0 l.length (some m)] [some (.arr 1 (l.map nrow))] (fun r H'=>r=.ref 0 1 0 (trimN l).length (some (trimN l).length)∧H'=[some (.arr 1 (l.map nrow))]):=by
 refine AFn.of_body (F:=T162.1) (by rw [hL];rfl) rfl ?_
 refine Wn0 ?_
 refine wWhile rfl (fun k:Nat=>[(0,V.ref 0 1 0 l.length (some m)),(3,V.int IntKind.i64 (k:Int))]) (fun _=>[some (.arr 1 (l.map nrow))]) (fun k=>k) (fun k=>k≤l.length∧∀i x,k≤i→l[i]?=some x→x=0) l.length rfl rfl ⟨Nat.le_refl _,fun i x h1 h2=>by rw [List.getElem?_eq_none h1] at h2;cases h2⟩ ?_
 rintro k ⟨k1,k2⟩
 cases k with
 | zero=>
  have h0:¬(0:Int) < 0:=by omega
  have hs:=sliceV_refT (Nat.zero_le l.length) hm
  have ht:l.take 0=trimN l:=take_trim (Nat.zero_le _) k2 (.inl rfl)
  have hn:(trimN l).length=0:=by rw [←ht];rfl
  refine Wf0 (Q2 h0 hs) ?_
  rw [hn]
  exact FnQ.at rfl ⟨rfl,rfl⟩
 | succ k=>
  have hk:k < l.length:=by omega
  obtain ⟨x,hx,_⟩:=get_of hk
  have h0:(0:Int) < (k:Int)+1:=by omega
  have hw:IntKind.i64.wrap ((k:Int)+1 - 1)=(k:Int):=by rw [wrap_i64 (by omega) (by omega)];omega
  have hw2:IntKind.i64.wrap (k:Int)=(k:Int):=wrap_nat (by omega)
  by_cases hx0:x=0
  ·subst hx0
   refine Wf0 (Q5 h0 hw hw2 hk (Q2 hx @nrow_eq)) ?_
   refine qW_n k rfl rfl ⟨by omega,by omega,fun i x h1 h2=>?_⟩
   by_cases e:i=k
   ·subst e;rw [hx] at h2;exact (Option.some.inj h2).symm
   ·exact k2 i x (by omega) h2
  ·have hx0':¬(x:Int)=0:=by omega
   have hs:=sliceV_refT k1 hm
   have ht:l.take (k+1)=trimN l:=take_trim k1 k2 (.inr ⟨x,hx,hx0⟩)
   have hn:(trimN l).length=k+1:=by rw [←ht,List.length_take];omega
   refine Wf0 (Q5 h0 hw hw2 hk (Q4 hx @nrow_eq hx0' hs)) ?_
   rw [hn]
   exact FnQ.at rfl ⟨rfl,rfl⟩
end Go.Proofs.YtigdhgbkgfagiaaGreat
