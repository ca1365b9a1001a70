/- Numbers in limbs of 32 bits: their values, their shortest form. Nothing of the program is named here. · Long division, digit by digit: how good the guess of a digit is. Nothing of the program is named here. · Limbs one after another, with a carry or a borrow. Nothing of the program is named here. · Numbers in limbs: which is less; shifts; division as it goes digit by digit. Nothing of the program is named here. · Division digit by digit, from the top; greatest common divisors, by halves. Nothing of the program is named here. · Shifting back; a digit of a quotient found by a guess and a subtraction. Nothing of the program is named here. -/
import Derived.Handy
set_option linter.unusedVariables false
namespace Go.Proofs.YtigdhgbkgfagiaaGreat
def W32:Nat:=4294967296
theorem W32_pos:0 < W32:=by decide
def valN:List Nat→Nat
 | []=>0
 | x::r=>x+W32*valN r
def limOk (l:List Nat):Prop:=∀x∈l,x < W32
theorem limOk_nil:limOk []:=fun x h=>by cases h
theorem limOk_cons {x:Nat} {l:List Nat}:limOk (x::l)↔x < W32∧limOk l:=by
 simp [limOk]
theorem limOk_app {a b:List Nat}:limOk (a++b)↔limOk a∧limOk b:=by
 simp only [limOk,List.mem_append]
 exact ⟨fun h=>⟨fun x hx=>h x (.inl hx),fun x hx=>h x (.inr hx)⟩,fun h x hx=>hx.elim (h.1 x) (h.2 x)⟩
theorem limOk_take {l:List Nat} (n:Nat) (h:limOk l):limOk (l.take n):=fun x hx=>h x (List.mem_of_mem_take hx)
theorem limOk_drop {l:List Nat} (n:Nat) (h:limOk l):limOk (l.drop n):=fun x hx=>h x (List.mem_of_mem_drop hx)
theorem limOk_set {l:List Nat} {i x:Nat} (h:limOk l) (hx:x < W32):limOk (l.set i x):=fun y hy=>by
 rcases List.mem_or_eq_of_mem_set hy with h1|h1
 ·exact h y h1
 ·rw [h1];exact hx
theorem limOk_rep (n:Nat):limOk (List.replicate n 0):=fun x hx=>by rw [List.eq_of_mem_replicate hx];exact W32_pos
theorem valN_rep:∀n,valN (List.replicate n 0)=0
 | 0=>rfl
 | n+1=>by rw [List.replicate_succ];simp [valN,valN_rep n]
theorem valN_app:∀(a b:List Nat),valN (a++b)=valN a+W32 ^ a.length*valN b
 | [],b=>by simp [valN]
 | x::a,b=>by
  show x+W32*valN (a++b)=x+W32*valN a+W32 ^ (a.length+1)*valN b
  rw [valN_app a b,Nat.mul_add,Nat.pow_succ,←Nat.mul_assoc,Nat.mul_comm (W32 ^ a.length) W32];omega
theorem valN_lt:∀{l:List Nat},limOk l→valN l < W32 ^ l.length
 | [],_=>by simp [valN]
 | x::l,h=>by
  have h1:=limOk_cons.1 h
  have h2:=valN_lt h1.2
  show x+W32*valN l < W32 ^ (l.length+1)
  rw [Nat.pow_succ]
  have h3:W32*(valN l+1)≤W32*W32 ^ l.length:=Nat.mul_le_mul_left _ h2
  rw [Nat.mul_add,Nat.mul_one] at h3
  rw [Nat.mul_comm (W32 ^ l.length)]
  omega
def trimN:List Nat→List Nat
 | []=>[]
 | x::r=>if trimN r=[]∧x=0 then [] else x::trimN r
theorem trim_val:∀l,valN (trimN l)=valN l
 | []=>rfl
 | x::r=>by
  unfold trimN
  have ih:=trim_val r
  by_cases h:trimN r=[]∧x=0
  ·rw [if_pos h]
   rw [h.1] at ih
   show 0=x+W32*valN r
   rw [←ih,h.2];rfl
  ·rw [if_neg h]
   show x+W32*valN (trimN r)=x+W32*valN r
   rw [ih]
theorem trim_ok:∀{l:List Nat},limOk l→limOk (trimN l)
 | [],h=>h
 | x::r,h=>by
  unfold trimN
  have h1:=limOk_cons.1 h
  split
  ·exact limOk_nil
  ·exact limOk_cons.2 ⟨h1.1,trim_ok h1.2⟩
def shortN (l:List Nat):Prop:=l.getLast?≠some 0
theorem short_nil:shortN []:=by simp [shortN]
theorem short_trim:∀l,shortN (trimN l)
 | []=>short_nil
 | x::r=>by
  unfold trimN
  have ih:=short_trim r
  split
  ·exact short_nil
  ·rename_i h
   unfold shortN at ih ⊢
   cases hr:trimN r with
   | nil=>
    rw [hr] at h
    simp only [List.getLast?_singleton,ne_eq,Option.some.injEq]
    exact fun e=>h ⟨rfl,e⟩
   | cons y t=>
    rw [hr] at ih
    rw [List.getLast?_cons_cons];exact ih
theorem short_tail {x:Nat} {l:List Nat} (h:shortN (x::l)):shortN l:=by
 unfold shortN at h ⊢
 cases l with
 | nil=>simp
 | cons y t=>rwa [List.getLast?_cons_cons] at h
theorem trim_short:∀{l:List Nat},shortN l→trimN l=l
 | [],_=>rfl
 | x::r,h=>by
  unfold trimN
  rw [trim_short (short_tail h),if_neg]
  rintro ⟨rfl,rfl⟩
  exact h (by simp)
theorem short_val_pos:∀{l:List Nat},shortN l→l≠[]→0 < valN l
 | [],_,h=>absurd rfl h
 | x::r,h,_=>by
  by_cases hr:r=[]
  ·subst hr
   have:x≠0:=fun e=>h (by simp [e])
   show 0 < x+W32*0
   omega
  ·have:=short_val_pos (short_tail h) hr
   have:=Nat.mul_le_mul_left W32 this
   show 0 < x+W32*valN r
   have:=W32_pos
   omega
theorem val_zero {l:List Nat} (h:shortN l):valN l=0↔l=[]:=by
 constructor
 ·intro e
  by_cases hl:l=[]
  ·exact hl
  ·have:=short_val_pos h hl;omega
 ·rintro rfl;rfl
theorem short_ext:∀{a b:List Nat},limOk a→limOk b→shortN a→shortN b→valN a=valN b→a=b
 | [],b,_,_,_,hb,e=>((val_zero hb).1 e.symm).symm
 | x::a,[],_,_,ha,_,e=>absurd ((val_zero ha).1 e) (by simp)
 | x::a,y::b,ka,kb,ha,hb,e=>by
  have k1:=limOk_cons.1 ka
  have k2:=limOk_cons.1 kb
  have e:x+W32*valN a=y+W32*valN b:=e
  have e1:x=y:=by
   have:=congrArg (· % W32) e
   simp only [Nat.add_mul_mod_self_left,Nat.mod_eq_of_lt k1.1,Nat.mod_eq_of_lt k2.1] at this
   exact this
  subst e1
  have e2:valN a=valN b:=Nat.eq_of_mul_eq_mul_left W32_pos (by omega)
  rw [short_ext k1.2 k2.2 (short_tail ha) (short_tail hb) e2]
def digN (n:Nat):List Nat:=if h:n=0 then [] else n % W32::digN (n / W32)
decreasing_by exact Nat.div_lt_self (by omega) (by decide)
theorem dig_zero:digN 0=[]:=by rw [digN];rfl
theorem dig_pos {n:Nat} (h:n≠0):digN n=n % W32::digN (n / W32):=by rw [digN,dif_neg h]
theorem dig_props (n:Nat):valN (digN n)=n∧limOk (digN n)∧shortN (digN n):=by
 induction n using Nat.strongRecOn with
 | ind n ih=>
  by_cases h:n=0
  ·subst h;rw [dig_zero];exact ⟨rfl,limOk_nil,short_nil⟩
  ·rw [dig_pos h]
   obtain ⟨h1,h2,h3⟩:=ih (n / W32) (Nat.div_lt_self (by omega) (by decide))
   refine ⟨?_,limOk_cons.2 ⟨Nat.mod_lt _ W32_pos,h2⟩,?_⟩
   ·show n % W32+W32*valN (digN (n / W32))=n
    rw [h1];exact Nat.mod_add_div n W32
   ·by_cases h0:n / W32=0
    ·rw [h0,dig_zero]
     unfold shortN
     simp only [List.getLast?_singleton,ne_eq,Option.some.injEq]
     have:=Nat.mod_add_div n W32
     rw [h0] at this
     omega
    ·rw [dig_pos h0] at h3 ⊢
     unfold shortN at h3 ⊢
     rwa [List.getLast?_cons_cons]
theorem dig_val {n:Nat}:valN (digN n)=n:=(dig_props n).1
theorem dig_ok {n:Nat}:limOk (digN n):=(dig_props n).2.1
theorem dig_short {n:Nat}:shortN (digN n):=(dig_props n).2.2
theorem dig_of {l:List Nat} (h1:limOk l) (h2:shortN l):digN (valN l)=l:=short_ext dig_ok h1 dig_short h2 dig_val
theorem trim_dig {l:List Nat} (h:limOk l):trimN l=digN (valN l):=short_ext (trim_ok h) dig_ok (short_trim l) dig_short (by rw [trim_val,dig_val])
theorem digN_len {n k:Nat}:(digN n).length≤k↔n < W32 ^ k:=by
 constructor
 ·intro h
  have h1:=valN_lt (dig_ok (n:=n))
  rw [dig_val] at h1
  exact Nat.lt_of_lt_of_le h1 (Nat.pow_le_pow_right W32_pos h)
 ·intro h
  induction k generalizing n with
  | zero=>have:n=0:=by simpa using h
          subst this;rw [dig_zero];exact Nat.le_refl _
  | succ k ih=>
   by_cases h0:n=0
   ·subst h0;rw [dig_zero];exact Nat.zero_le _
   ·rw [dig_pos h0,List.length_cons]
    have:=ih (n:=n / W32) (by rw [Nat.div_lt_iff_lt_mul W32_pos];rwa [Nat.pow_succ] at h)
    omega
theorem take_trim:∀{l:List Nat} {n:Nat},n≤l.length→(∀(i:Nat) (x:Nat),n≤i→l[i]?=some x→x=0)→(n=0∨∃x,l[n - 1]?=some x∧x≠0)→l.take n=trimN l
 | [],n,h,_,_=>by simp [trimN]
 | x::l,0,h,hz,_=>by
  have h1:=take_trim (l:=l) (n:=0) (Nat.zero_le _) (fun i y _ hy=>hz (i+1) y (by omega) (by simpa using hy)) (.inl rfl)
  rw [List.take_zero] at h1 ⊢
  unfold trimN
  rw [if_pos ⟨h1.symm,hz 0 x (by omega) rfl⟩]
 | x::l,n+1,h,hz,hn=>by
  have h1:=take_trim (l:=l) (n:=n) (by simpa using h) (fun i y hi hy=>hz (i+1) y (by omega) (by simpa using hy)) (by
   cases n with
   | zero=>exact .inl rfl
   | succ n=>
    rcases hn with hn|⟨y,hy,h0⟩
    ·cases hn
    ·exact .inr ⟨y,by simpa using hy,h0⟩)
  rw [List.take_succ_cons]
  unfold trimN
  rw [h1,if_neg]
  rintro ⟨e1,rfl⟩
  cases n with
  | zero=>
   rcases hn with hn|⟨y,hy,h0⟩
   ·cases hn
   ·simp at hy;exact h0 hy.symm
  | succ n=>
   rcases hn with hn|⟨y,hy,h0⟩
   ·cases hn
   ·have hy:l[n]?=some y:=by simpa using hy
    have hlt:=(List.getElem?_eq_some_iff.1 hy).1
    rw [←h1] at e1
    have:=congrArg List.length e1
    rw [List.length_take,List.length_nil] at this
    omega
end Go.Proofs.YtigdhgbkgfagiaaGreat
namespace Go.Proofs.YtigdhgbkgfagiaaGreat
structure Gs (top u2 v1 v2 P ul vl U V:Nat):Prop where
 hU:U=(top*W32+u2)*P+ul
 hV:V=(v1*W32+v2)*P+vl
 ul:ul < P
 vl:vl < P
 u2:u2 < W32
 v2:v2 < W32
 v1:W32≤2*v1
 lt:U < V*W32
section
variable {top u2 v1 v2 P ul vl U V:Nat} (g:Gs top u2 v1 v2 P ul vl U V)
include g
theorem Gs.v1_pos:0 < v1:=by have:=g.v1;unfold W32 at this;omega
theorem Gs.V_pos:0 < V:=by
 have h1:=g.v1_pos
 have h2:=g.hV
 have h3:=g.ul
 have h4:1*P≤(v1*W32+v2)*P:=Nat.mul_le_mul_right _ (by unfold W32;omega)
 omega
theorem Gs.start:U / V≤top / v1:=by
 rw [Nat.le_div_iff_mul_le g.v1_pos]
 refine Nat.le_of_not_lt fun h=>?_
 have h0:=Nat.div_mul_le_self U V
 generalize U / V=k at h h0
 have e1:(top+1)*(W32*P)≤(k*v1)*(W32*P):=Nat.mul_le_mul_right _ h
 have e2:(u2+1)*P≤W32*P:=Nat.mul_le_mul_right _ g.u2
 have hU:=g.hU
 have hV:=g.hV
 have ul:=g.ul
 subst hU hV
 generalize W32=W at *
 grind
theorem Gs.top_lt:top < v1*W32+W32:=by
 refine Nat.lt_of_not_le fun h=>?_
 have lt:=g.lt
 have e1:(v1*W32+W32)*(W32*P)≤top*(W32*P):=Nat.mul_le_mul_right _ h
 have e2:(v2+1)*(P*W32)≤W32*(P*W32):=Nat.mul_le_mul_right _ g.v2
 have e3:(vl+1)*W32≤P*W32:=Nat.mul_le_mul_right _ g.vl
 have hU:=g.hU
 have hV:=g.hV
 subst hU hV
 generalize W32=W at *
 grind
theorem Gs.k_lt:U / V < W32:=by
 rw [Nat.div_lt_iff_lt_mul g.V_pos,Nat.mul_comm];exact g.lt
theorem Gs.dec {q r:Nat} (hq:q*v1+r=top) (h:W32≤q∨r*W32+u2 < q*v2):U / V < q:=by
 rcases h with h|h
 ·exact Nat.lt_of_lt_of_le g.k_lt h
 ·rw [Nat.div_lt_iff_lt_mul g.V_pos]
  have hU:=g.hU
  have hV:=g.hV
  have ul:=g.ul
  have e1:(r*W32+u2+1)*P≤(q*v2)*P:=Nat.mul_le_mul_right _ h
  subst hq hU hV
  generalize W32=W at *
  have e2:0≤q*vl:=Nat.zero_le _
  grind
theorem Gs.fin {q r:Nat} (hq:q*v1+r=top) (hk:U / V≤q) (hb:q < W32) (h:q*v2≤r*W32+u2∨W32≤r):q≤U / V+1:=by
 have h1:q*v2≤r*W32+u2:=by
  rcases h with h|h
  ·exact h
  ·have e1:q*v2≤W32*W32:=Nat.mul_le_mul (Nat.le_of_lt hb) (Nat.le_of_lt g.v2)
   have e2:W32*W32≤r*W32:=Nat.mul_le_mul_right _ h
   omega
 refine Nat.le_of_not_lt fun hlt=>?_
 have h0:=Nat.lt_div_mul_add g.V_pos (a:=U)
 generalize U / V=k at *
 have hU:=g.hU
 have hV:=g.hV
 have kul:=g.ul
 have kvl:=g.vl
 have kv1:=g.v1
 obtain ⟨d,rfl⟩:∃d,q=k+2+d:=⟨q - (k+2),by omega⟩
 have e1:((k+2+d)*v2)*P≤(r*W32+u2)*P:=Nat.mul_le_mul_right _ h1
 have e3:(k+1)*(vl+1)≤(k+1)*P:=Nat.mul_le_mul_left _ kvl
 have e4:(k+2+d+1)*P≤(2*W32)*P:=Nat.mul_le_mul_right _ (by omega)
 have e5:W32*(W32*P)≤(2*v1)*(W32*P):=Nat.mul_le_mul_right _ kv1
 have e6:4*(W32*P)≤W32*(W32*P):=Nat.mul_le_mul_right _ (by decide)
 have e7:0≤d*(v1*W32*P):=Nat.zero_le _
 have e8:0≤d*(v2*P):=Nat.zero_le _
 have e9:0≤v2*P:=Nat.zero_le _
 subst hq hU hV
 generalize W32=W at *
 grind
end
end Go.Proofs.YtigdhgbkgfagiaaGreat
namespace Go.Proofs.YtigdhgbkgfagiaaGreat
def cy (f:Nat→Nat) (c:Nat):Nat→Nat
 | 0=>c
 | n+1=>(f n+cy f c n) / W32
def lm (f:Nat→Nat) (c:Nat):Nat→List Nat
 | 0=>[]
 | n+1=>lm f c n++[(f n+cy f c n) % W32]
def sumW (f:Nat→Nat):Nat→Nat
 | 0=>0
 | n+1=>sumW f n+f n*W32 ^ n
theorem lm_len (f:Nat→Nat) (c:Nat):∀n,(lm f c n).length=n
 | 0=>rfl
 | n+1=>by simp [lm,lm_len f c n]
theorem lm_ok (f:Nat→Nat) (c:Nat):∀n,limOk (lm f c n)
 | 0=>limOk_nil
 | n+1=>limOk_app.2 ⟨lm_ok f c n,limOk_cons.2 ⟨Nat.mod_lt _ W32_pos,limOk_nil⟩⟩
theorem val_snoc (l:List Nat) (x:Nat):valN (l++[x])=valN l+x*W32 ^ l.length:=by
 rw [valN_app];simp [valN,Nat.mul_comm]
theorem lm_val (f:Nat→Nat) (c:Nat):∀n,valN (lm f c n)+cy f c n*W32 ^ n=sumW f n+c
 | 0=>by simp [lm,cy,sumW,valN]
 | n+1=>by
  have ih:=lm_val f c n
  show valN (lm f c n++[(f n+cy f c n) % W32])+(f n+cy f c n) / W32*W32 ^ (n+1)=sumW f n+f n*W32 ^ n+c
  rw [val_snoc,lm_len,Nat.pow_succ]
  have e:=Nat.mod_add_div (f n+cy f c n) W32
  have e2:((f n+cy f c n) % W32+W32*((f n+cy f c n) / W32))*W32 ^ n=(f n+cy f c n)*W32 ^ n:=by rw [e]
  generalize (f n+cy f c n) % W32=m at *
  generalize (f n+cy f c n) / W32=q at *
  generalize W32 ^ n=P at *
  generalize W32=W at *
  grind
theorem sumW_le {f g:Nat→Nat}:∀{n:Nat},(∀i,i < n→f i=g i)→sumW f n=sumW g n
 | 0,_=>rfl
 | n+1,h=>by
  show sumW f n+f n*W32 ^ n=sumW g n+g n*W32 ^ n
  rw [sumW_le (fun i hi=>h i (by omega)),h n (by omega)]
theorem sumW_add (f g:Nat→Nat):∀n,sumW (fun i=>f i+g i) n=sumW f n+sumW g n
 | 0=>rfl
 | n+1=>by
  show sumW (fun i=>f i+g i) n+(f n+g n)*W32 ^ n=sumW f n+f n*W32 ^ n+(sumW g n+g n*W32 ^ n)
  rw [sumW_add f g n,Nat.add_mul];omega
theorem sumW_mul (k:Nat) (f:Nat→Nat):∀n,sumW (fun i=>k*f i) n=k*sumW f n
 | 0=>rfl
 | n+1=>by
  show sumW (fun i=>k*f i) n+k*f n*W32 ^ n=k*(sumW f n+f n*W32 ^ n)
  rw [sumW_mul k f n,Nat.mul_add,Nat.mul_assoc]
def lmb (l:List Nat) (i:Nat):Nat:=l.getD i 0
theorem lmb_ge {l:List Nat} {i:Nat} (h:l.length≤i):lmb l i=0:=by simp [lmb,List.getElem?_eq_none h]
theorem lmb_of {l:List Nat} {i x:Nat} (h:l[i]?=some x):lmb l i=x:=by simp [lmb,h]
theorem lmb_lt {l:List Nat} (h:limOk l) (i:Nat):lmb l i < W32:=by
 unfold lmb
 rw [List.getD_eq_getElem?_getD]
 cases hx:l[i]? with
 | none=>exact W32_pos
 | some x=>exact h x (List.mem_of_getElem? hx)
theorem val_take (l:List Nat):∀n,valN (l.take n)=sumW (lmb l) n
 | 0=>rfl
 | n+1=>by
  show _=sumW (lmb l) n+lmb l n*W32 ^ n
  rw [←val_take l n,List.take_add_one]
  cases hx:l[n]? with
  | none=>
   have:=List.getElem?_eq_none_iff.1 hx
   rw [lmb_ge this];simp
  | some x=>
   have hlt:=(List.getElem?_eq_some_iff.1 hx).1
   rw [lmb_of hx,show (some x).toList=[x] from rfl,val_snoc,List.length_take,Nat.min_eq_left (by omega)]
theorem val_sum {l:List Nat} {n:Nat} (h:l.length≤n):sumW (lmb l) n=valN l:=by rw [←val_take,List.take_of_length_le h]
def bw (a b:Nat→Nat) (c:Nat):Nat→Nat
 | 0=>c
 | n+1=>if a n < b n+bw a b c n then 1 else 0
def sb (a b:Nat→Nat) (c:Nat):Nat→List Nat
 | 0=>[]
 | n+1=>sb a b c n++[(a n+W32 - b n - bw a b c n) % W32]
theorem sb_len (a b:Nat→Nat) (c:Nat):∀n,(sb a b c n).length=n
 | 0=>rfl
 | n+1=>by simp [sb,sb_len a b c n]
theorem sb_ok (a b:Nat→Nat) (c:Nat):∀n,limOk (sb a b c n)
 | 0=>limOk_nil
 | n+1=>limOk_app.2 ⟨sb_ok a b c n,limOk_cons.2 ⟨Nat.mod_lt _ W32_pos,limOk_nil⟩⟩
theorem bw_le (a b:Nat→Nat) {c:Nat} (hc:c≤1):∀n,bw a b c n≤1
 | 0=>hc
 | n+1=>by show (if _ then 1 else 0)≤1;split <;> omega
theorem sb_val {a b:Nat→Nat} {c:Nat} (hc:c≤1):∀{n:Nat},(∀i,i < n→a i < W32∧b i < W32)→valN (sb a b c n)+sumW b n+c=sumW a n+bw a b c n*W32 ^ n
 | 0,_=>by simp [sb,bw,sumW,valN]
 | n+1,h=>by
  have ih:=sb_val hc (n:=n) fun i hi=>h i (by omega)
  obtain ⟨h1,h2⟩:=h n (by omega)
  have h3:=bw_le a b hc n
  show valN (sb a b c n++[(a n+W32 - b n - bw a b c n) % W32])+(sumW b n+b n*W32 ^ n)+c=sumW a n+a n*W32 ^ n+(if a n < b n+bw a b c n then 1 else 0)*W32 ^ (n+1)
  rw [val_snoc,sb_len,Nat.pow_succ]
  have key:(a n+W32 - b n - bw a b c n) % W32+b n+bw a b c n=a n+(if a n < b n+bw a b c n then 1 else 0)*W32:=by
   generalize bw a b c n=w at *
   generalize a n=x at *
   generalize b n=y at *
   unfold W32 at *
   split <;> omega
  have k2:((a n+W32 - b n - bw a b c n) % W32+b n+bw a b c n)*W32 ^ n=(a n+(if a n < b n+bw a b c n then 1 else 0)*W32)*W32 ^ n:=by rw [key]
  generalize (a n+W32 - b n - bw a b c n) % W32=m at *
  generalize (if a n < b n+bw a b c n then 1 else 0)=z at *
  generalize W32 ^ n=P at *
  generalize W32=W at *
  grind
end Go.Proofs.YtigdhgbkgfagiaaGreat
namespace Go.Proofs.YtigdhgbkgfagiaaGreat
theorem sumW_lt {f:Nat→Nat} {n:Nat} (h:∀i,i < n→f i < W32):sumW f n < W32 ^ n:=by
 induction n with
 | zero=>simp [sumW]
 | succ n ih=>
  have h1:=ih (fun i hi=>h i (by omega))
  have h2:=Nat.mul_le_mul_right (W32 ^ n) (h n (by omega))
  show sumW f n+f n*W32 ^ n < W32 ^ (n+1)
  rw [Nat.pow_succ]
  generalize W32 ^ n=P at *
  generalize W32=W at *
  rw [Nat.succ_mul] at h2
  rw [Nat.mul_comm P W]
  omega
theorem sumW_first {f g:Nat→Nat} (kf:∀i,f i < W32) (kg:∀i,g i < W32) {i:Nat} (hi:f i < g i):∀{n:Nat},i < n→(∀k,i < k→k < n→f k=g k)→sumW f n < sumW g n
 | 0,h,_=>by omega
 | n+1,h,he=>by
  show sumW f n+f n*W32 ^ n < sumW g n+g n*W32 ^ n
  by_cases e:i=n
  ·subst e
   have h1:=sumW_lt (f:=f) (n:=i) (fun j _=>kf j)
   have h2:=Nat.mul_le_mul_right (W32 ^ i) hi
   rw [Nat.succ_mul] at h2
   omega
  ·have:=sumW_first kf kg hi (n:=n) (by omega) (fun k h1 h2=>he k h1 (by omega))
   rw [he n (by omega) (by omega)]
   omega
theorem val_first {a b:List Nat} (ka:limOk a) (kb:limOk b) (hl:a.length=b.length) {i:Nat} (hn:i < a.length) (hi:lmb a i < lmb b i) (he:∀k,i < k→k < a.length→lmb a k=lmb b k):valN a < valN b:=by
 rw [←val_sum (l:=a) (Nat.le_refl _),←val_sum (l:=b) (Nat.le_of_eq hl.symm)]
 exact sumW_first (lmb_lt ka) (lmb_lt kb) hi hn he
theorem val_last {b:List Nat} (h:shortN b) (hne:b≠[]):W32 ^ (b.length - 1)≤valN b:=by
 obtain ⟨x,hx⟩:∃x,b.getLast?=some x:=by
  cases hb:b.getLast? with
  | none=>exact absurd (List.getLast?_eq_none_iff.1 hb) hne
  | some x=>exact ⟨x,rfl⟩
 have h0:x≠0:=fun e=>h (by rw [hx,e])
 obtain ⟨t,rfl⟩:∃t,b=t++[x]:=List.getLast?_eq_some_iff.1 hx
 rw [val_snoc]
 simp only [List.length_append,List.length_singleton,Nat.add_sub_cancel]
 have:=Nat.mul_le_mul_right (W32 ^ t.length) (show 1≤x by omega)
 omega
theorem val_len {a b:List Nat} (ka:limOk a) (hb:shortN b) (h:a.length < b.length):valN a < valN b:=by
 have h1:=valN_lt ka
 have h2:=val_last hb (fun e=>by subst e;simp at h)
 have h3:W32 ^ a.length≤W32 ^ (b.length - 1):=Nat.pow_le_pow_right W32_pos (by omega)
 omega
theorem val_same {a b:List Nat} (hl:a.length=b.length) (he:∀k,k < a.length→lmb a k=lmb b k):a=b:=by
 apply List.ext_getElem?
 intro i
 by_cases h:i < a.length
 ·have:=he i h
  rw [lmb_of (List.getElem?_eq_getElem h),lmb_of (List.getElem?_eq_getElem (show i < b.length by omega))] at this
  rw [List.getElem?_eq_getElem h,List.getElem?_eq_getElem (show i < b.length by omega),this]
 ·rw [List.getElem?_eq_none (by omega),List.getElem?_eq_none (by omega)]
def ordN (x y:Nat):Int:=if x < y then -1 else if y < x then 1 else 0
def shf (l:List Nat) (k:Nat) (i:Nat):Nat:=(lmb l i*2 ^ k) % W32+(if i=0 then 0 else lmb l (i - 1)*2 ^ k / W32)
theorem shf_sum {l:List Nat} {k:Nat}:∀n,sumW (shf l k) n+(if n=0 then 0 else lmb l (n - 1)*2 ^ k / W32)*W32 ^ n=sumW (lmb l) n*2 ^ k
 | 0=>by simp [sumW]
 | n+1=>by
  have ih:=shf_sum (l:=l) (k:=k) n
  show sumW (shf l k) n+shf l k n*W32 ^ n+(if n+1=0 then 0 else lmb l (n+1 - 1)*2 ^ k / W32)*W32 ^ (n+1)=(sumW (lmb l) n+lmb l n*W32 ^ n)*2 ^ k
  rw [if_neg (by omega),Nat.add_sub_cancel,Nat.pow_succ]
  rw [show shf l k n=(lmb l n*2 ^ k) % W32+(if n=0 then 0 else lmb l (n - 1)*2 ^ k / W32) from rfl]
  have e:=Nat.mod_add_div (lmb l n*2 ^ k) W32
  have e2:((lmb l n*2 ^ k) % W32+W32*(lmb l n*2 ^ k / W32))*W32 ^ n=lmb l n*2 ^ k*W32 ^ n:=by rw [e]
  generalize (lmb l n*2 ^ k) % W32=m at *
  generalize lmb l n*2 ^ k / W32=q at *
  generalize (if n=0 then 0 else lmb l (n - 1)*2 ^ k / W32)=z at *
  generalize W32 ^ n=P at *
  generalize 2 ^ k=T at *
  generalize W32=W at *
  grind
theorem shf_lt {l:List Nat} (h:limOk l) {k:Nat} (hk:k < 32) (i:Nat):shf l k i < W32:=by
 unfold shf
 obtain ⟨d,hd⟩:∃d,W32=2 ^ k*2 ^ d:=⟨32 - k,by rw [←Nat.pow_add,show k+(32 - k)=32 by omega];rfl⟩
 have hT:0 < 2 ^ k:=Nat.two_pow_pos k
 have hD:0 < 2 ^ d:=Nat.two_pow_pos d
 have e1:(lmb l i*2 ^ k) % W32=(lmb l i % 2 ^ d)*2 ^ k:=by
  rw [hd,Nat.mul_comm (lmb l i),Nat.mul_mod_mul_left,Nat.mul_comm]
 have e2:(lmb l i % 2 ^ d+1)*2 ^ k≤2 ^ d*2 ^ k:=Nat.mul_le_mul_right _ (Nat.mod_lt _ hD)
 have e3:(if i=0 then 0 else lmb l (i - 1)*2 ^ k / W32) < 2 ^ k:=by
  split
  ·exact hT
  ·rw [Nat.div_lt_iff_lt_mul W32_pos,Nat.mul_comm]
   exact (Nat.mul_lt_mul_left hT).2 (lmb_lt h _)
 rw [e1]
 rw [Nat.mul_comm (2 ^ k)] at hd
 rw [Nat.add_mul] at e2
 omega
theorem shf_val {l:List Nat} {k n:Nat} (h:l.length < n):sumW (shf l k) n=valN l*2 ^ k:=by
 have:=shf_sum (l:=l) (k:=k) n
 rw [if_neg (by omega),lmb_ge (show l.length≤n - 1 by omega)] at this
 rw [val_sum (by omega)] at this
 simpa using this
end Go.Proofs.YtigdhgbkgfagiaaGreat
namespace Go.Proofs.YtigdhgbkgfagiaaGreat
theorem div_step {V:Nat} (hV:0 < V) (x N:Nat):(x+W32*N) / V=W32*(N / V)+(x+W32*(N % V)) / V∧(x+W32*N) % V=(x+W32*(N % V)) % V:=by
 have e:=Nat.mod_add_div N V
 have e2:x+W32*N=x+W32*(N % V)+V*(W32*(N / V)):=by
  rw [show W32*N=W32*(N % V+V*(N / V)) by rw [e],Nat.mul_add,←Nat.mul_assoc W32 V,Nat.mul_comm W32 V,Nat.mul_assoc]
  omega
 rw [e2,Nat.add_mul_div_left _ _ hV,Nat.add_mul_mod_self_left]
 exact ⟨by omega,rfl⟩
theorem gcd_both (a b:Nat):Nat.gcd (2*a) (2*b)=2*Nat.gcd a b:=Nat.gcd_mul_left 2 a b
theorem gcd_odd_r {a b:Nat} (h:b % 2=1):Nat.gcd (2*a) b=Nat.gcd a b:=by
 have hc:Nat.Coprime 2 b:=by
  have:Nat.gcd 2 b=Nat.gcd (b % 2) 2:=by rw [←Nat.gcd_rec]
  rw [Nat.coprime_iff_gcd_eq_one,this,h];rfl
 exact Nat.Coprime.gcd_mul_left_cancel a hc
theorem gcd_odd_l {a b:Nat} (h:a % 2=1):Nat.gcd a (2*b)=Nat.gcd a b:=by
 rw [Nat.gcd_comm,gcd_odd_r h,Nat.gcd_comm]
theorem gcd_less {a b:Nat} (h:a≤b):Nat.gcd a (b - a)=Nat.gcd a b:=by
 rw [Nat.gcd_sub_self_right h]
theorem gcd_more {a b:Nat} (h:b≤a):Nat.gcd (a - b) b=Nat.gcd a b:=by
 rw [Nat.gcd_sub_self_left h]
theorem val_even {x:Nat} {l:List Nat}:(x+W32*valN l) % 2=x % 2:=by
 rw [show W32*valN l=2*(2147483648*valN l) by rw [←Nat.mul_assoc];rfl,Nat.add_mul_mod_self_left]
end Go.Proofs.YtigdhgbkgfagiaaGreat
namespace Go.Proofs.YtigdhgbkgfagiaaGreat
theorem shift_div (a b T:Nat) (hT:0 < T):(a*T) / (b*T)=a / b∧(a*T) % (b*T)=(a % b)*T:=⟨Nat.mul_div_mul_right _ _ hT,by rw [Nat.mul_mod_mul_right]⟩
def shr (f:Nat→Nat) (k:Nat) (i:Nat):Nat:=((f (i+1)*W32+f i) / 2 ^ k) % W32
theorem pow_split {k:Nat} (hk:k < 32):W32=2 ^ k*2 ^ (32 - k):=by rw [←Nat.pow_add,show k+(32 - k)=32 by omega];rfl
theorem shr_at {k:Nat} (hk:k < 32) {x y:Nat} (hx:x < W32):((y*W32+x) / 2 ^ k) % W32=x / 2 ^ k+(y % 2 ^ k)*2 ^ (32 - k):=by
 have hT:0 < 2 ^ k:=Nat.two_pow_pos k
 have hD:0 < 2 ^ (32 - k):=Nat.two_pow_pos _
 have hW:=pow_split hk
 have e1:(y*W32+x) / 2 ^ k=y*2 ^ (32 - k)+x / 2 ^ k:=by
  rw [hW,show y*(2 ^ k*2 ^ (32 - k))+x=x+2 ^ k*(y*2 ^ (32 - k)) by rw [←Nat.mul_assoc y,Nat.mul_comm y,Nat.mul_assoc,Nat.add_comm],Nat.add_mul_div_left _ _ hT,Nat.add_comm]
 have h1:x / 2 ^ k < 2 ^ (32 - k):=by
  rw [Nat.div_lt_iff_lt_mul hT,Nat.mul_comm,←hW];exact hx
 have e2:=Nat.mod_add_div y (2 ^ k)
 rw [e1]
 have e3:y*2 ^ (32 - k)+x / 2 ^ k=x / 2 ^ k+(y % 2 ^ k)*2 ^ (32 - k)+W32*(y / 2 ^ k):=by
  have:y*2 ^ (32 - k)=(y % 2 ^ k+2 ^ k*(y / 2 ^ k))*2 ^ (32 - k):=by rw [e2]
  rw [this,hW]
  generalize y % 2 ^ k=m at *
  generalize y / 2 ^ k=q at *
  generalize 2 ^ (32 - k)=D at *
  generalize 2 ^ k=T at *
  grind
 rw [e3,Nat.add_mul_mod_self_left]
 refine Nat.mod_eq_of_lt ?_
 have h2:(y % 2 ^ k+1)*2 ^ (32 - k)≤2 ^ k*2 ^ (32 - k):=Nat.mul_le_mul_right _ (Nat.mod_lt _ hT)
 rw [←hW] at h2
 generalize W32=W at *
 grind
theorem shr_sum {f:Nat→Nat} {k:Nat} (hk:k < 32) (hf:∀i,f i < W32):∀n,sumW (shr f k) n*2 ^ k+f 0 % 2 ^ k=sumW f n+(f n % 2 ^ k)*W32 ^ n
 | 0=>by simp [sumW]
 | n+1=>by
  have ih:=shr_sum hk hf n
  show (sumW (shr f k) n+shr f k n*W32 ^ n)*2 ^ k+f 0 % 2 ^ k=sumW f n+f n*W32 ^ n+(f (n+1) % 2 ^ k)*W32 ^ (n+1)
  have e:shr f k n=f n / 2 ^ k+(f (n+1) % 2 ^ k)*2 ^ (32 - k):=shr_at hk (hf n)
  have e2:=Nat.mod_add_div (f n) (2 ^ k)
  have hW:=pow_split hk
  have e4:(f n % 2 ^ k+2 ^ k*(f n / 2 ^ k))*W32 ^ n=f n*W32 ^ n:=by rw [e2]
  rw [e,Nat.pow_succ]
  generalize f n % 2 ^ k=m at *
  generalize f n / 2 ^ k=q at *
  generalize f (n+1) % 2 ^ k=m' at *
  generalize W32 ^ n=P at *
  rw [hW]
  generalize 2 ^ (32 - k)=D at *
  generalize 2 ^ k=T at *
  grind
theorem digit_ok {U V q:Nat} (hV:0 < V) (h1:U / V≤q) (h2:q≤U / V+1):(q*V≤U∧U / V=q∧U % V=U - q*V)∨(U < q*V∧1≤q∧U / V=q - 1∧U % V=U+V - q*V):=by
 have e:=Nat.mod_add_div U V
 have hm:=Nat.mod_lt U hV
 by_cases h:q*V≤U
 ·left
  have:q≤U / V:=(Nat.le_div_iff_mul_le hV).2 h
  have hq:U / V=q:=by omega
  refine ⟨h,hq,?_⟩
  rw [hq,Nat.mul_comm] at e
  omega
 ·right
  have hlt:U / V < q:=(Nat.div_lt_iff_lt_mul hV).2 (by omega)
  generalize U / V=k at *
  generalize U % V=m at *
  obtain rfl:q=k+1:=by omega
  rw [Nat.add_mul,Nat.one_mul,Nat.mul_comm] at h ⊢
  omega
end Go.Proofs.YtigdhgbkgfagiaaGreat
