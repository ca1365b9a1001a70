/- AL: carried out: the runner. Blocks lie in a tree; what is kept is forced. · AL: the runner: regions that draw their order; code; functions. · AL: what the runner yields holds in the model. · AL: the runner for the kernel: by recursors alone, its terms closed. What it yields is what the other yields. · AL: the runner for the kernel: memory, steps, code, functions. -/
import Derived.Test.YtigdhgbkgfagiaaGreatVA2
set_option linter.unusedVariables false
namespace Go.Proofs.YtigdhgbkgfagiaaGreat
inductive Tri (α:Type) where
 | e
 | n (l:Tri α) (v:Option α) (r:Tri α)
namespace Tri
variable {α:Type}
def get:Tri α→Nat→Option α
 | .e,_=>none
 | .n l v r,i=>bif Nat.beq i 0 then v else bif Nat.beq (i % 2) 1 then l.get (i / 2) else r.get (i / 2 - 1)
def set:Nat→Tri α→Nat→Option α→Tri α
 | 0,t,_,_=>t
 | f+1,.e,i,x=>bif Nat.beq i 0 then .n .e x .e else bif Nat.beq (i % 2) 1 then .n (set f .e (i / 2) x) none .e else .n .e none (set f .e (i / 2 - 1) x)
 | f+1,.n l v r,i,x=>bif Nat.beq i 0 then .n l x r else bif Nat.beq (i % 2) 1 then .n (set f l (i / 2) x) v r else .n l v (set f r (i / 2 - 1) x)
def setK {β:Type}:Nat→Tri α→Nat→Option α→(Tri α→β)→β
 | 0,t,_,_,k=>k t
 | f+1,.e,i,x,k=>bif Nat.beq i 0 then k (.n .e x .e) else bif Nat.beq (i % 2) 1 then setK f .e (i / 2) x fun l=>k (.n l none .e) else setK f .e (i / 2 - 1) x fun r=>k (.n .e none r)
 | f+1,.n l v r,i,x,k=>bif Nat.beq i 0 then k (.n l x r) else bif Nat.beq (i % 2) 1 then setK f l (i / 2) x fun l=>k (.n l v r) else setK f r (i / 2 - 1) x fun r=>k (.n l v r)
theorem setK_eq {β:Type}:∀(f:Nat) (t:Tri α) (i:Nat) (x:Option α) (k:Tri α→β),setK f t i x k=k (set f t i x)
 | 0,t,i,x,k=>rfl
 | f+1,.e,i,x,k=>by
  simp only [setK,set]
  cases Nat.beq i 0 <;> simp only [cond_true,cond_false]
  cases Nat.beq (i % 2) 1 <;> simp only [cond_true,cond_false,setK_eq f]
 | f+1,.n l v r,i,x,k=>by
  simp only [setK,set]
  cases Nat.beq i 0 <;> simp only [cond_true,cond_false]
  cases Nat.beq (i % 2) 1 <;> simp only [cond_true,cond_false,setK_eq f]
theorem beq_ff {a b:Nat} (h:a≠b):Nat.beq a b=false:=by
 cases hq:Nat.beq a b with
 | false=>rfl
 | true=>exact absurd (Nat.eq_of_beq_eq_true hq) h
theorem beq_tt {a b:Nat} (h:a=b):Nat.beq a b=true:=by subst h;exact Nat.beq_refl a
theorem step_get (l r:Tri α) (v:Option α) (j:Nat):(Tri.n l v r).get j=if j=0 then v else if j % 2=1 then l.get (j / 2) else r.get (j / 2 - 1):=by
 rw [get]
 by_cases h:j=0
 ·rw [beq_tt h,if_pos h];rfl
 ·rw [beq_ff h,if_neg h]
  by_cases h2:j % 2=1
  ·rw [beq_tt h2,if_pos h2];rfl
  ·rw [beq_ff h2,if_neg h2];rfl
theorem get_set:∀(f:Nat) (t:Tri α) (i:Nat) (x:Option α) (j:Nat),i+1 < 2 ^ f→(set f t i x).get j=if j=i then x else t.get j
 | 0,t,i,x,j,h=>by simp at h
 | f+1,.e,i,x,j,h=>by
  have hp:2 ^ (f+1)=2*2 ^ f:=by rw [Nat.pow_succ];omega
  simp only [set]
  by_cases h0:i=0
  ·rw [beq_tt h0,cond_true,step_get,h0]
   by_cases hj:j=0
   ·simp [hj]
   ·simp [hj,get]
  ·rw [beq_ff h0,cond_false]
   by_cases h1:i % 2=1
   ·rw [beq_tt h1,cond_true,step_get,get_set f .e (i / 2) x (j / 2) (by omega)]
    by_cases hj:j=i
    ·subst hj;simp [h0,h1]
    ·simp only [hj,if_false,get]
     by_cases hj0:j=0
     ·simp [hj0]
     ·by_cases hj1:j % 2=1
      ·have:¬j / 2=i / 2:=by omega
       simp [hj0,hj1,this]
      ·simp [hj0,hj1]
   ·rw [beq_ff h1,cond_false,step_get,get_set f .e (i / 2 - 1) x (j / 2 - 1) (by omega)]
    by_cases hj:j=i
    ·subst hj;simp [h0,h1]
    ·simp only [hj,if_false,get]
     by_cases hj0:j=0
     ·simp [hj0]
     ·by_cases hj1:j % 2=1
      ·simp [hj0,hj1]
      ·have:¬j / 2 - 1=i / 2 - 1:=by omega
       simp [hj0,hj1,this]
 | f+1,.n l v r,i,x,j,h=>by
  have hp:2 ^ (f+1)=2*2 ^ f:=by rw [Nat.pow_succ];omega
  simp only [set]
  by_cases h0:i=0
  ·rw [beq_tt h0,cond_true,step_get,step_get,h0]
   by_cases hj:j=0
   ·simp [hj]
   ·simp [hj]
  ·rw [beq_ff h0,cond_false]
   by_cases h1:i % 2=1
   ·rw [beq_tt h1,cond_true,step_get,step_get,get_set f l (i / 2) x (j / 2) (by omega)]
    by_cases hj:j=i
    ·subst hj;simp [h0,h1]
    ·by_cases hj0:j=0
     ·simp [hj0,Ne.symm h0]
     ·by_cases hj1:j % 2=1
      ·have:¬j / 2=i / 2:=by omega
       simp [hj0,hj1,this,hj]
      ·simp [hj0,hj1,hj]
   ·rw [beq_ff h1,cond_false,step_get,step_get,get_set f r (i / 2 - 1) x (j / 2 - 1) (by omega)]
    by_cases hj:j=i
    ·subst hj;simp [h0,h1]
    ·by_cases hj0:j=0
     ·simp [hj0,Ne.symm h0]
     ·by_cases hj1:j % 2=1
      ·simp [hj0,hj1,hj]
      ·have:¬j / 2 - 1=i / 2 - 1:=by omega
       simp [hj0,hj1,this,hj]
end Tri
section
variable {β:Type}
def natK (n:Nat) (k:Nat→β):β:=match n with|0=>k 0|m+1=>k (m+1)
theorem natK_eq (n:Nat) (k:Nat→β):natK n k=k n:=by cases n <;> rfl
def intK (n:Int) (k:Int→β):β:=match n with|.ofNat m=>natK m fun m=>k (.ofNat m)|.negSucc m=>natK m fun m=>k (.negSucc m)
theorem intK_eq (n:Int) (k:Int→β):intK n k=k n:=by cases n <;> simp only [intK,natK_eq]
def boolK (b:Bool) (k:Bool→β):β:=match b with|true=>k true|false=>k false
theorem boolK_eq (b:Bool) (k:Bool→β):boolK b k=k b:=by cases b <;> rfl
def u8K (b:UInt8) (k:UInt8→β):β:=natK b.toNat fun n=>k (UInt8.ofNat n)
theorem u8K_eq (b:UInt8) (k:UInt8→β):u8K b k=k b:=by simp only [u8K,natK_eq,UInt8.ofNat_toNat]
def strK:List UInt8→(List UInt8→β)→β
 | [],k=>k []
 | b::r,k=>u8K b fun b=>strK r fun r=>k (b::r)
theorem strK_eq:∀(s:List UInt8) (k:List UInt8→β),strK s k=k s
 | [],k=>rfl
 | b::r,k=>by simp only [strK,u8K_eq,strK_eq r]
def optK (o:Option Nat) (k:Option Nat→β):β:=match o with|some n=>natK n fun n=>k (some n)|none=>k none
theorem optK_eq (o:Option Nat) (k:Option Nat→β):optK o k=k o:=by cases o <;> simp only [optK,natK_eq]
mutual
def V.fK:V→(V→β)→β
 | .int t n,k=>intK n fun n=>k (.int t n)
 | .bool b,k=>boolK b fun b=>k (.bool b)
 | .str s,k=>strK s fun s=>k (.str s)
 | .agg cs,k=>V.fsK cs fun cs=>k (.agg cs)
 | .tup cs,k=>V.fsK cs fun cs=>k (.tup cs)
 | .lst s r c,k=>k (.lst s r c)
 | .iptr s r i o,k=>natK i fun i=>natK o fun o=>k (.iptr s r i o)
 | .ref a s o l c,k=>natK a fun a=>natK o fun o=>natK l fun l=>optK c fun c=>k (.ref a s o l c)
 | .ptr a s i o,k=>natK a fun a=>natK i fun i=>natK o fun o=>k (.ptr a s i o)
 | .fn f a b,k=>V.fsK a fun a=>V.fsK b fun b=>k (.fn f a b)
 | .iface t v,k=>V.fK v fun v=>k (.iface t v)
 | .nilp,k=>k .nilp
 | .nilf,k=>k .nilf
 | .nili,k=>k .nili
 | .bot,k=>k .bot
 | .yld a,k=>natK a fun a=>k (.yld a)
 | .mapp a,k=>natK a fun a=>k (.mapp a)
 | .nilm,k=>k .nilm
def V.fsK:List V→(List V→β)→β
 | [],k=>k []
 | v::r,k=>V.fK v fun v=>V.fsK r fun r=>k (v::r)
end
mutual
theorem V.fK_eq:∀(v:V) (k:V→β),V.fK v k=k v
 | .int t n,k=>by simp only [V.fK,intK_eq]
 | .bool b,k=>by simp only [V.fK,boolK_eq]
 | .str s,k=>by simp only [V.fK,strK_eq]
 | .agg cs,k=>by simp only [V.fK,V.fsK_eq cs]
 | .tup cs,k=>by simp only [V.fK,V.fsK_eq cs]
 | .lst s r c,k=>by simp only [V.fK]
 | .iptr s r i o,k=>by simp only [V.fK,natK_eq]
 | .ref a s o l c,k=>by simp only [V.fK,natK_eq,optK_eq]
 | .ptr a s i o,k=>by simp only [V.fK,natK_eq]
 | .fn f a b,k=>by simp only [V.fK,V.fsK_eq a,V.fsK_eq b]
 | .iface t v,k=>by simp only [V.fK,V.fK_eq v]
 | .nilp,k=>by simp only [V.fK]
 | .nilf,k=>by simp only [V.fK]
 | .nili,k=>by simp only [V.fK]
 | .bot,k=>by simp only [V.fK]
 | .yld a,k=>by simp only [V.fK,natK_eq]
 | .mapp a,k=>by simp only [V.fK,natK_eq]
 | .nilm,k=>by simp only [V.fK]
theorem V.fsK_eq:∀(l:List V) (k:List V→β),V.fsK l k=k l
 | [],k=>by simp only [V.fsK]
 | v::r,k=>by simp only [V.fsK,V.fK_eq v,V.fsK_eq r]
end
def spK {α:Type}:List α→(List α→β)→β
 | [],k=>k []
 | x::r,k=>spK r fun r=>k (x::r)
theorem spK_eq {α:Type}:∀(l:List α) (k:List α→β),spK l k=k l
 | [],k=>rfl
 | x::r,k=>by simp only [spK,spK_eq r]
def rowsK {α:Type}:List (List α)→(List (List α)→β)→β
 | [],k=>k []
 | v::r,k=>spK v fun v=>rowsK r fun r=>k (v::r)
theorem rowsK_eq {α:Type}:∀(l:List (List α)) (k:List (List α)→β),rowsK l k=k l
 | [],k=>rfl
 | v::r,k=>by simp only [rowsK,spK_eq,rowsK_eq r]
def natsK:List Nat→(List Nat→β)→β
 | [],k=>k []
 | x::r,k=>natK x fun x=>natsK r fun r=>k (x::r)
theorem natsK_eq:∀(l:List Nat) (k:List Nat→β),natsK l k=k l
 | [],k=>rfl
 | x::r,k=>by simp only [natsK,natK_eq,natsK_eq r]
def Blk.fK:Blk→(Blk→β)→β
 | .arr s rows,k=>rowsK rows fun rows=>k (.arr s rows)
 | .map es bs clk,k=>spK es fun es=>natsK bs fun bs=>natK clk fun clk=>k (.map es bs clk)
 | .iter m s l c,k=>optK m fun m=>natK s fun s=>natsK l fun l=>natK c fun c=>k (.iter m s l c)
 | .siter s p,k=>natK p fun p=>k (.siter s p)
 | b,k=>k b
theorem Blk.fK_eq (b:Blk) (k:Blk→β):b.fK k=k b:=by cases b <;> simp only [Blk.fK,rowsK_eq,spK_eq,natsK_eq,natK_eq,optK_eq]
def memB (t:Nat):List Nat→Bool
 | []=>false
 | x::r=>bif Nat.beq x t then true else memB t r
end
def HR (T:Tri Blk) (n:Nat) (H:Heap):Prop:=H.length=n∧H.get=T.get
def FU:Nat:=24
def big:Nat:=16777214
abbrev St:=Env×Tri Blk×Nat
abbrev Callf:=Tgt→List V→Tri Blk→Nat→Option (V×Tri Blk×Nat)
section
variable (L:Lib) (call:Callf)
end
end Go.Proofs.YtigdhgbkgfagiaaGreat
namespace Go.Proofs.YtigdhgbkgfagiaaGreat
mutual
def V.refs:V→List Nat→List Nat
 | .agg cs,acc=>V.refss cs acc
 | .tup cs,acc=>V.refss cs acc
 | .fn _ a b,acc=>V.refss a (V.refss b acc)
 | .iface _ v,acc=>V.refs v acc
 | .ref a _ _ _ _,acc=>a::acc
 | .ptr a _ _ _,acc=>a::acc
 | .yld a,acc=>a::acc
 | .mapp a,acc=>a::acc
 | .int _ _,acc=>acc
 | .bool _,acc=>acc
 | .str _,acc=>acc
 | .lst _ _ _,acc=>acc
 | .iptr _ _ _ _,acc=>acc
 | .nilp,acc=>acc
 | .nilf,acc=>acc
 | .nili,acc=>acc
 | .bot,acc=>acc
 | .nilm,acc=>acc
def V.refss:List V→List Nat→List Nat
 | [],acc=>acc
 | v::r,acc=>V.refs v (V.refss r acc)
end
def rowsRefs:List (List V)→List Nat→List Nat
 | [],acc=>acc
 | r::l,acc=>V.refss r (rowsRefs l acc)
def envRefs:List (Nat×V)→List Nat→List Nat
 | [],acc=>acc
 | p::l,acc=>V.refs p.2 (envRefs l acc)
def entsRefs:List (V×V)→List Nat→List Nat
 | [],acc=>acc
 | p::l,acc=>V.refs p.1 (V.refs p.2 (entsRefs l acc))
def Blk.refs:Blk→List Nat→List Nat
 | .arr _ rows,acc=>rowsRefs rows acc
 | .loop _ E _ _ _,acc=>envRefs E acc
 | .stop _,acc=>acc
 | .map es _ _,acc=>entsRefs es acc
 | .iter m _ _ _,acc=>match m with|some a=>a::acc|none=>acc
 | .siter _ _,acc=>acc
 | .junk,acc=>acc
mutual
def eqV:V→V→Bool
 | .int j a,.int k b=>decide (j=k)&&decide (a=b)
 | .bool a,.bool b=>a == b
 | .str a,.str b=>a == b
 | .agg a,.agg b=>eqVs a b
 | .tup a,.tup b=>eqVs a b
 | .fn f a b,.fn g c d=>Nat.beq f g&&(eqVs a c&&eqVs b d)
 | .iface t v,.iface u w=>Nat.beq t u&&eqV v w
 | .ref a s o l c,.ref a' s' o' l' c'=>(Nat.beq a a'&&Nat.beq s s')&&((Nat.beq o o'&&Nat.beq l l')&&decide (c=c'))
 | .ptr a s i o,.ptr a' s' i' o'=>(Nat.beq a a'&&Nat.beq s s')&&(Nat.beq i i'&&Nat.beq o o')
 | .nilp,.nilp=>true
 | .nilf,.nilf=>true
 | .nili,.nili=>true
 | .bot,.bot=>true
 | .nilm,.nilm=>true
 | .yld a,.yld b=>Nat.beq a b
 | .mapp a,.mapp b=>Nat.beq a b
 | _,_=>false
def eqVs:List V→List V→Bool
 | [],[]=>true
 | a::r,b::s=>eqV a b&&eqVs r s
 | _,_=>false
end
mutual
theorem eqV_eq:∀{a b:V},eqV a b=true→a=b
 | .int j a,b,h=>by cases b <;> simp [eqV] at h;simp [h]
 | .bool a,b,h=>by cases b <;> simp [eqV] at h;simp [h]
 | .str a,b,h=>by cases b <;> simp [eqV] at h;simp [h]
 | .agg a,b,h=>by cases b <;> simp [eqV] at h;rw [eqVs_eq h]
 | .tup a,b,h=>by cases b <;> simp [eqV] at h;rw [eqVs_eq h]
 | .fn f a b,c,h=>by cases c <;> simp [eqV] at h;rw [h.1,eqVs_eq h.2.1,eqVs_eq h.2.2]
 | .iface t v,b,h=>by cases b <;> simp [eqV] at h;rw [h.1,eqV_eq h.2]
 | .ref a s o l c,b,h=>by cases b <;> simp [eqV] at h;simp [h]
 | .ptr a s i o,b,h=>by cases b <;> simp [eqV] at h;simp [h]
 | .lst s r c,b,h=>by cases b <;> simp [eqV] at h
 | .iptr s r i o,b,h=>by cases b <;> simp [eqV] at h
 | .nilp,b,h=>by cases b <;> simp [eqV] at h;rfl
 | .nilf,b,h=>by cases b <;> simp [eqV] at h;rfl
 | .nili,b,h=>by cases b <;> simp [eqV] at h;rfl
 | .bot,b,h=>by cases b <;> simp [eqV] at h;rfl
 | .nilm,b,h=>by cases b <;> simp [eqV] at h;rfl
 | .yld a,b,h=>by cases b <;> simp [eqV] at h;simp [h]
 | .mapp a,b,h=>by cases b <;> simp [eqV] at h;simp [h]
theorem eqVs_eq:∀{a b:List V},eqVs a b=true→a=b
 | [],b,h=>by cases b <;> simp [eqVs] at h;rfl
 | a::r,b,h=>by cases b <;> simp [eqVs] at h;rw [eqV_eq h.1,eqVs_eq h.2]
end
section
variable (L:Lib) (call:Callf)
end
end Go.Proofs.YtigdhgbkgfagiaaGreat
namespace Go.Proofs.YtigdhgbkgfagiaaGreat
theorem blt_lt {a b:Nat} (h:Nat.blt a b=true):a < b:=by rwa [Nat.blt_eq] at h
theorem FU_lt {i:Nat} (h:i < big):i+1 < 2 ^ FU:=by
 unfold big at h;unfold FU
 have:(2:Nat) ^ 24=16777216:=by decide
 omega
theorem HR.set {T:Tri Blk} {n i:Nat} {H:Heap} (h:HR T n H) (hi:i < n) (hb:i < big) (x:Option Blk):HR (T.set FU i x) n (H.set i x):=by
 refine ⟨by simp [h.1],?_⟩
 funext a
 rw [Heap.get_set _ _ _ (by rw [h.1];exact hi),Tri.get_set _ _ _ _ _ (FU_lt hb),h.2]
theorem HR.snoc {T:Tri Blk} {n:Nat} {H:Heap} (h:HR T n H) (hb:n < big) (x:Option Blk):HR (T.set FU n x) (n+1) (H++[x]):=by
 refine ⟨by simp [h.1],?_⟩
 funext a
 rw [Heap.get_snoc,Tri.get_set _ _ _ _ _ (FU_lt hb),h.2,h.1]
section
variable {L:Lib} {call:Callf}
theorem shG0 (get:Nat→Option Blk):shG 0 get=get:=by
 funext a
 unfold shG
 cases get a with
 | none=>rfl
 | some b=>
  simp only [Option.map_some]
  cases b with
  | arr s rows=>
   simp only [Blk.shape]
   by_cases h:s=0
   ·rw [if_pos h]
   ·rw [if_neg h,if_neg (by omega)]
  | _=>rfl
end
section
variable {L:Lib} {call:Callf}
end
end Go.Proofs.YtigdhgbkgfagiaaGreat
namespace Go.Proofs.YtigdhgbkgfagiaaGreat
noncomputable section
abbrev RR:=Option St
def limN (j:IntKind):Nat:=IntKind.rec (motive:=fun _=>Nat) 128 32768 2147483648 9223372036854775808 256 65536 4294967296 18446744073709551616 j
def negN (j:IntKind):Nat:=IntKind.rec (motive:=fun _=>Nat) 128 32768 2147483648 9223372036854775808 0 0 0 0 j
theorem wrap_pos {j:IntKind} {m:Nat} (h:Nat.blt m (limN j)=true):j.wrap (.ofNat m)=.ofNat m:=by
 have h':=blt_lt h
 show j.wrap (m:Int)=m
 cases j <;> simp only [limN] at h' <;> simp only [IntKind.wrap,IntKind.bits,IntKind.signed,Bool.true_and,Bool.false_and,ge_iff_le,decide_eq_true_eq,if_false,Bool.false_eq_true] <;> omega
theorem wrap_neg {j:IntKind} {m:Nat} (h:Nat.blt m (negN j)=true):j.wrap (.negSucc m)=.negSucc m:=by
 have h':=blt_lt h
 have hz:Int.negSucc m < 0∧-(negN j:Int)≤Int.negSucc m:=by rw [Int.negSucc_eq];omega
 generalize Int.negSucc m=z at hz
 clear h h'
 cases j <;> simp only [negN] at hz <;> simp only [IntKind.wrap,IntKind.bits,IntKind.signed,Bool.true_and,Bool.false_and,ge_iff_le,decide_eq_true_eq,if_false,Bool.false_eq_true] <;> omega
inductive VV where
 | int (k:IntKind) (n:Int)
 | bool (b:Bool)
 | agg (cs:List V)
 | ref (a size off len:Nat) (cap:Option Nat)
 | ptr (a size i o:Nat)
 | oth
abbrev KF:=V→Tri Blk→Nat→RR
abbrev OpF:=(AOpd→Option V)→Tri Blk→Nat→KF→RR
end
end Go.Proofs.YtigdhgbkgfagiaaGreat
namespace Go.Proofs.YtigdhgbkgfagiaaGreat
noncomputable section
inductive Fast where
 | call (c:ACallee) (args:List AOpd)
 | mem (f:OpF)
def AOp.quiet:AOp→Bool
 | .mov _|.pick _ _ _|.bin _ _ _|.un _ _|.iaa _ _ _ _|.idx _ _ _ _ _|.load _ _ _|.min _|.max _|.fa _ _|.ia _ _ _|.len _|.slen _|.ext _ _|.beq _ _ _|.conv _ _|.chr _ _|.fld _ _ _ _|.isnil _ _ _|.slice _ _ _ _ _|.substr _ _ _|.build _ _|.mkfn _ _ _|.mkiface _ _|.cap _|.same _|.nilchk _|.acmp _ _ _ _|.mget _ _ _ _ _|.mlen _|.string _|.xfn _ _ _=>true
 | _=>false
def Qt (o:Option Eff):Prop:=∀e,o=some e→e.upd=[]∧e.new=[]
theorem Qt.none:Qt none:=fun e h=>by cases h
theorem Qt.bind {α:Type} {o:Option α} {f:α→Option Eff} (h:∀x,Qt (f x)):Qt (o.bind f):=by
 cases o with
 | none=>exact Qt.none
 | some x=>exact h x
structure SR where
 dst:Option Nat
 looks:List Nat
 quiet:Bool
def Mat (r:Rec) (s:SR):Prop:=r.dst=s.dst∧r.looks=s.looks∧(s.quiet=true→r.eff=[])
def Mats:List Rec→List SR→Prop
 | [],[]=>True
 | r::rs,s::ss=>Mat r s∧Mats rs ss
 | _,_=>False
theorem Mats.snoc:∀{rs:List Rec} {ss:List SR} {r:Rec} {s:SR},Mats rs ss→Mat r s→Mats (rs++[r]) (ss++[s])
 | [],[],r,s,_,h=>⟨h,trivial⟩
 | r::rs,s::ss,_,_,⟨h1,h2⟩,h=>⟨h1,h2.snoc h⟩
 | [],_::_,_,_,h,_=>h.elim
 | _::_,[],_,_,h,_=>h.elim
section
variable (L:Lib) (call:Callf)
end
section
variable (L:Lib) (call:Callf)
end
end
end Go.Proofs.YtigdhgbkgfagiaaGreat
