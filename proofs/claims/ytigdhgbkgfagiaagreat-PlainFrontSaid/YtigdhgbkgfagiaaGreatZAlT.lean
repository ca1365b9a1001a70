/- AL: carried out: the runner. Blocks lie in a tree; what is kept is forced. -/
import Derived.Test.YtigdhgbkgfagiaaGreatZAlS
set_option linter.unusedVariables false
namespace Go.Proofs.YtigdhgbkgfagiaaGreat
inductive Tri (α : Type) where
 | e
 | n (l : Tri α) (v : Option α) (r : Tri α)
namespace Tri
variable {α : Type}
def get : Tri α → Nat → Option α
 | .e, _ => none
 | .n l v r, i => bif Nat.beq i 0 then v else bif Nat.beq (i % 2) 1 then l.get (i / 2) else r.get (i / 2 - 1)
def set : Nat → Tri α → Nat → Option α → Tri α
 | 0, t, _, _ => t
 | f + 1, .e, i, x => bif Nat.beq i 0 then .n .e x .e else bif Nat.beq (i % 2) 1 then .n (set f .e (i / 2) x) none .e else .n .e none (set f .e (i / 2 - 1) x)
 | f + 1, .n l v r, i, x => bif Nat.beq i 0 then .n l x r else bif Nat.beq (i % 2) 1 then .n (set f l (i / 2) x) v r else .n l v (set f r (i / 2 - 1) x)
def setK {β : Type} : Nat → Tri α → Nat → Option α → (Tri α → β) → β
 | 0, t, _, _, k => k t
 | f + 1, .e, i, x, k => bif Nat.beq i 0 then k (.n .e x .e) else bif Nat.beq (i % 2) 1 then setK f .e (i / 2) x fun l => k (.n l none .e) else setK f .e (i / 2 - 1) x fun r => k (.n .e none r)
 | f + 1, .n l v r, i, x, k => bif Nat.beq i 0 then k (.n l x r) else bif Nat.beq (i % 2) 1 then setK f l (i / 2) x fun l => k (.n l v r) else setK f r (i / 2 - 1) x fun r => k (.n l v r)
theorem setK_eq {β : Type} : ∀ (f : Nat) (t : Tri α) (i : Nat) (x : Option α) (k : Tri α → β), setK f t i x k = k (set f t i x)
 | 0, t, i, x, k => rfl
 | f + 1, .e, i, x, k => by
  simp only [setK, set]
  cases Nat.beq i 0 <;> simp only [cond_true, cond_false]
  cases Nat.beq (i % 2) 1 <;> simp only [cond_true, cond_false, setK_eq f]
 | f + 1, .n l v r, i, x, k => by
  simp only [setK, set]
  cases Nat.beq i 0 <;> simp only [cond_true, cond_false]
  cases Nat.beq (i % 2) 1 <;> simp only [cond_true, cond_false, setK_eq f]
theorem beq_ff {a b : Nat} (h : a ≠ b) : Nat.beq a b = false := by
 cases hq : Nat.beq a b with
 | false => rfl
 | true => exact absurd (Nat.eq_of_beq_eq_true hq) h
theorem beq_tt {a b : Nat} (h : a = b) : Nat.beq a b = true := by subst h; exact Nat.beq_refl a
theorem step_get (l r : Tri α) (v : Option α) (j : Nat) : (Tri.n l v r).get j = if j = 0 then v else if j % 2 = 1 then l.get (j / 2) else r.get (j / 2 - 1) := by
 rw [get]
 by_cases h : j = 0
 ·rw [beq_tt h, if_pos h]; rfl
 ·rw [beq_ff h, if_neg h]
  by_cases h2 : j % 2 = 1
  ·rw [beq_tt h2, if_pos h2]; rfl
  ·rw [beq_ff h2, if_neg h2]; rfl
theorem get_set : ∀ (f : Nat) (t : Tri α) (i : Nat) (x : Option α) (j : Nat), i + 1 < 2 ^ f → (set f t i x).get j = if j = i then x else t.get j
 | 0, t, i, x, j, h => by simp at h
 | f + 1, .e, i, x, j, h => by
  have hp : 2 ^ (f + 1) = 2 * 2 ^ f := by rw [Nat.pow_succ]; omega
  simp only [set]
  by_cases h0 : i = 0
  ·rw [beq_tt h0, cond_true, step_get, h0]
   by_cases hj : j = 0
   ·simp [hj]
   ·simp [hj, get]
  ·rw [beq_ff h0, cond_false]
   by_cases h1 : i % 2 = 1
   ·rw [beq_tt h1, cond_true, step_get, get_set f .e (i / 2) x (j / 2) (by omega)]
    by_cases hj : j = i
    ·subst hj; simp [h0, h1]
    ·simp only [hj, if_false, get]
     by_cases hj0 : j = 0
     ·simp [hj0]
     ·by_cases hj1 : j % 2 = 1
      ·have : ¬ j / 2 = i / 2 := by omega
       simp [hj0, hj1, this]
      ·simp [hj0, hj1]
   ·rw [beq_ff h1, cond_false, step_get, get_set f .e (i / 2 - 1) x (j / 2 - 1) (by omega)]
    by_cases hj : j = i
    ·subst hj; simp [h0, h1]
    ·simp only [hj, if_false, get]
     by_cases hj0 : j = 0
     ·simp [hj0]
     ·by_cases hj1 : j % 2 = 1
      ·simp [hj0, hj1]
      ·have : ¬ j / 2 - 1 = i / 2 - 1 := by omega
       simp [hj0, hj1, this]
 | f + 1, .n l v r, i, x, j, h => by
  have hp : 2 ^ (f + 1) = 2 * 2 ^ f := by rw [Nat.pow_succ]; omega
  simp only [set]
  by_cases h0 : i = 0
  ·rw [beq_tt h0, cond_true, step_get, step_get, h0]
   by_cases hj : j = 0
   ·simp [hj]
   ·simp [hj]
  ·rw [beq_ff h0, cond_false]
   by_cases h1 : i % 2 = 1
   ·rw [beq_tt h1, cond_true, step_get, step_get, get_set f l (i / 2) x (j / 2) (by omega)]
    by_cases hj : j = i
    ·subst hj; simp [h0, h1]
    ·by_cases hj0 : j = 0
     ·simp [hj0, Ne.symm h0]
     ·by_cases hj1 : j % 2 = 1
      ·have : ¬ j / 2 = i / 2 := by omega
       simp [hj0, hj1, this, hj]
      ·simp [hj0, hj1, hj]
   ·rw [beq_ff h1, cond_false, step_get, step_get, get_set f r (i / 2 - 1) x (j / 2 - 1) (by omega)]
    by_cases hj : j = i
    ·subst hj; simp [h0, h1]
    ·by_cases hj0 : j = 0
     ·simp [hj0, Ne.symm h0]
     ·by_cases hj1 : j % 2 = 1
      ·simp [hj0, hj1, hj]
      ·have : ¬ j / 2 - 1 = i / 2 - 1 := by omega
       simp [hj0, hj1, this, hj]
end Tri
section
variable {β : Type}
def natK (n : Nat) (k : Nat → β) : β := match n with | 0 => k 0 | m + 1 => k (m + 1)
theorem natK_eq (n : Nat) (k : Nat → β) : natK n k = k n := by cases n <;> rfl
def intK (n : Int) (k : Int → β) : β := match n with | .ofNat m => natK m fun m => k (.ofNat m) | .negSucc m => natK m fun m => k (.negSucc m)
theorem intK_eq (n : Int) (k : Int → β) : intK n k = k n := by cases n <;> simp only [intK, natK_eq]
def boolK (b : Bool) (k : Bool → β) : β := match b with | true => k true | false => k false
theorem boolK_eq (b : Bool) (k : Bool → β) : boolK b k = k b := by cases b <;> rfl
def u8K (b : UInt8) (k : UInt8 → β) : β := natK b.toNat fun n => k (UInt8.ofNat n)
theorem u8K_eq (b : UInt8) (k : UInt8 → β) : u8K b k = k b := by simp only [u8K, natK_eq, UInt8.ofNat_toNat]
def strK : List UInt8 → (List UInt8 → β) → β
 | [], k => k []
 | b :: r, k => u8K b fun b => strK r fun r => k (b :: r)
theorem strK_eq : ∀ (s : List UInt8) (k : List UInt8 → β), strK s k = k s
 | [], k => rfl
 | b :: r, k => by simp only [strK, u8K_eq, strK_eq r]
def optK (o : Option Nat) (k : Option Nat → β) : β := match o with | some n => natK n fun n => k (some n) | none => k none
theorem optK_eq (o : Option Nat) (k : Option Nat → β) : optK o k = k o := by cases o <;> simp only [optK, natK_eq]
mutual
def V.fK : V → (V → β) → β
 | .int t n, k => intK n fun n => k (.int t n)
 | .bool b, k => boolK b fun b => k (.bool b)
 | .str s, k => strK s fun s => k (.str s)
 | .agg cs, k => V.fsK cs fun cs => k (.agg cs)
 | .tup cs, k => V.fsK cs fun cs => k (.tup cs)
 | .lst s r c, k => k (.lst s r c)
 | .iptr s r i o, k => natK i fun i => natK o fun o => k (.iptr s r i o)
 | .ref a s o l c, k => natK a fun a => natK o fun o => natK l fun l => optK c fun c => k (.ref a s o l c)
 | .ptr a s i o, k => natK a fun a => natK i fun i => natK o fun o => k (.ptr a s i o)
 | .fn f a b, k => V.fsK a fun a => V.fsK b fun b => k (.fn f a b)
 | .iface t v, k => V.fK v fun v => k (.iface t v)
 | .nilp, k => k .nilp
 | .nilf, k => k .nilf
 | .nili, k => k .nili
 | .bot, k => k .bot
 | .yld a, k => natK a fun a => k (.yld a)
 | .mapp a, k => natK a fun a => k (.mapp a)
 | .nilm, k => k .nilm
def V.fsK : List V → (List V → β) → β
 | [], k => k []
 | v :: r, k => V.fK v fun v => V.fsK r fun r => k (v :: r)
end
mutual
theorem V.fK_eq : ∀ (v : V) (k : V → β), V.fK v k = k v
 | .int t n, k => by simp only [V.fK, intK_eq]
 | .bool b, k => by simp only [V.fK, boolK_eq]
 | .str s, k => by simp only [V.fK, strK_eq]
 | .agg cs, k => by simp only [V.fK, V.fsK_eq cs]
 | .tup cs, k => by simp only [V.fK, V.fsK_eq cs]
 | .lst s r c, k => by simp only [V.fK]
 | .iptr s r i o, k => by simp only [V.fK, natK_eq]
 | .ref a s o l c, k => by simp only [V.fK, natK_eq, optK_eq]
 | .ptr a s i o, k => by simp only [V.fK, natK_eq]
 | .fn f a b, k => by simp only [V.fK, V.fsK_eq a, V.fsK_eq b]
 | .iface t v, k => by simp only [V.fK, V.fK_eq v]
 | .nilp, k => by simp only [V.fK]
 | .nilf, k => by simp only [V.fK]
 | .nili, k => by simp only [V.fK]
 | .bot, k => by simp only [V.fK]
 | .yld a, k => by simp only [V.fK, natK_eq]
 | .mapp a, k => by simp only [V.fK, natK_eq]
 | .nilm, k => by simp only [V.fK]
theorem V.fsK_eq : ∀ (l : List V) (k : List V → β), V.fsK l k = k l
 | [], k => by simp only [V.fsK]
 | v :: r, k => by simp only [V.fsK, V.fK_eq v, V.fsK_eq r]
end
def spK {α : Type} : List α → (List α → β) → β
 | [], k => k []
 | x :: r, k => spK r fun r => k (x :: r)
theorem spK_eq {α : Type} : ∀ (l : List α) (k : List α → β), spK l k = k l
 | [], k => rfl
 | x :: r, k => by simp only [spK, spK_eq r]
def V.sK (v : V) (k : V → β) : β :=
 match v with
 | .agg cs => spK cs fun cs => k (.agg cs)
 | .tup cs => spK cs fun cs => k (.tup cs)
 | .fn f a b => spK a fun a => spK b fun b => k (.fn f a b)
 | .str s => k (.str s)
 | .iface t v => k (.iface t v)
 | v => V.fK v k
theorem V.sK_eq (v : V) (k : V → β) : V.sK v k = k v := by
 cases v <;> simp only [V.sK, spK_eq, V.fK_eq]
def rowsK {α : Type} : List (List α) → (List (List α) → β) → β
 | [], k => k []
 | v :: r, k => spK v fun v => rowsK r fun r => k (v :: r)
theorem rowsK_eq {α : Type} : ∀ (l : List (List α)) (k : List (List α) → β), rowsK l k = k l
 | [], k => rfl
 | v :: r, k => by simp only [rowsK, spK_eq, rowsK_eq r]
def natsK : List Nat → (List Nat → β) → β
 | [], k => k []
 | x :: r, k => natK x fun x => natsK r fun r => k (x :: r)
theorem natsK_eq : ∀ (l : List Nat) (k : List Nat → β), natsK l k = k l
 | [], k => rfl
 | x :: r, k => by simp only [natsK, natK_eq, natsK_eq r]
def Blk.fK : Blk → (Blk → β) → β
 | .arr s rows, k => rowsK rows fun rows => k (.arr s rows)
 | .map es bs clk, k => spK es fun es => natsK bs fun bs => natK clk fun clk => k (.map es bs clk)
 | .iter m s l c, k => optK m fun m => natK s fun s => natsK l fun l => natK c fun c => k (.iter m s l c)
 | .siter s p, k => natK p fun p => k (.siter s p)
 | b, k => k b
theorem Blk.fK_eq (b : Blk) (k : Blk → β) : b.fK k = k b := by cases b <;> simp only [Blk.fK, rowsK_eq, spK_eq, natsK_eq, natK_eq, optK_eq]
def rowsD : List (List V) → (List (List V) → β) → β
 | [], k => k []
 | v :: r, k => V.fsK v fun v => rowsD r fun r => k (v :: r)
theorem rowsD_eq : ∀ (l : List (List V)) (k : List (List V) → β), rowsD l k = k l
 | [], k => rfl
 | v :: r, k => by simp only [rowsD, V.fsK_eq, rowsD_eq r]
def entsD : List (V × V) → (List (V × V) → β) → β
 | [], k => k []
 | v :: r, k => V.fK v.1 fun a => V.fK v.2 fun b => entsD r fun r => k ((a, b) :: r)
theorem entsD_eq : ∀ (l : List (V × V)) (k : List (V × V) → β), entsD l k = k l
 | [], k => rfl
 | v :: r, k => by simp only [entsD, V.fK_eq, entsD_eq r]
def Blk.dK : Blk → (Blk → β) → β
 | .arr s rows, k => rowsD rows fun rows => k (.arr s rows)
 | .map es bs clk, k => entsD es fun es => natsK bs fun bs => natK clk fun clk => k (.map es bs clk)
 | .iter m s l c, k => optK m fun m => natK s fun s => natsK l fun l => natK c fun c => k (.iter m s l c)
 | .siter s p, k => natK p fun p => k (.siter s p)
 | b, k => k b
theorem Blk.dK_eq (b : Blk) (k : Blk → β) : b.dK k = k b := by cases b <;> simp only [Blk.dK, rowsD_eq, entsD_eq, natsK_eq, natK_eq, optK_eq]
theorem beq_nat (n t : Nat) : (n == t) = Nat.beq n t := by
 by_cases h : n = t
 ·rw [Tri.beq_tt h]; simp [h]
 ·rw [Tri.beq_ff h]; simp [h]
def Env.setK : Env → Nat → V → (Env → β) → β
 | [], t, v, k => k [(t, v)]
 | (n, w) :: r, t, v, k => bif Nat.beq n t then k ((t, v) :: r) else bif t.blt n then k ((t, v) :: (n, w) :: r) else Env.setK r t v fun r => k ((n, w) :: r)
theorem Env.setK_eq : ∀ (E : Env) (t : Nat) (v : V) (k : Env → β), Env.setK E t v k = k (E.set t v)
 | [], t, v, k => rfl
 | (n, w) :: r, t, v, k => by
  simp only [Env.setK, Env.set]
  rw [beq_nat n t]
  cases Nat.beq n t <;> simp only [cond_true, cond_false]
  cases t.blt n <;> simp only [cond_true, cond_false, Env.setK_eq r]
def Env.putK (E : Env) (d : Option Nat) (v : V) (k : Env → β) : β := match d with | some t => Env.setK E t v k | none => k E
theorem Env.putK_eq (E : Env) (d : Option Nat) (v : V) (k : Env → β) : Env.putK E d v k = k (E.put d v) := by cases d <;> simp only [Env.putK, Env.setK_eq, Env.put]
def memB (t : Nat) : List Nat → Bool
 | [] => false
 | x :: r => bif Nat.beq x t then true else memB t r
theorem memB_eq (t : Nat) : ∀ l, memB t l = l.contains t
 | [] => rfl
 | x :: r => by
  simp only [memB, List.contains_cons, memB_eq t r]
  by_cases h : x = t
  ·subst h; rw [Tri.beq_tt rfl]; simp
  ·rw [Tri.beq_ff h]
   have : (t == x) = false := by simp; exact fun e => h e.symm
   rw [this]; rfl
def Env.killK : Env → List Nat → (Env → β) → β
 | [], _, k => k []
 | (n, v) :: r, ts, k => bif memB n ts then Env.killK r ts k else Env.killK r ts fun r => k ((n, v) :: r)
theorem Env.killK_eq : ∀ (E : Env) (ts : List Nat) (k : Env → β), Env.killK E ts k = k (E.kill ts)
 | [], ts, k => rfl
 | (n, v) :: r, ts, k => by
  simp only [Env.killK, Env.kill, List.filter_cons, memB_eq]
  cases hc : ts.contains n
  ·simp only [cond_false, Bool.not_false, if_true, Env.killK_eq r]; rfl
  ·simp only [cond_true, Env.killK_eq r]; simp [Env.kill]
def Env.fget : Env → Nat → Option V
 | [], _ => none
 | (k, v) :: r, t => bif Nat.beq k t then some v else Env.fget r t
theorem Env.fget_eq : ∀ (E : Env) (t : Nat), E.fget t = E.get t
 | [], t => rfl
 | (k, v) :: r, t => by
  simp only [Env.fget, Env.get, Env.fget_eq r t, beq_nat]
end
def HR (T : Tri Blk) (n : Nat) (H : Heap) : Prop := H.length = n ∧ H.get = T.get
def FU : Nat := 24
def big : Nat := 16777214
abbrev St := Env × Tri Blk × Nat
abbrev Callf := Tgt → List V → Tri Blk → Nat → Option (V × Tri Blk × Nat)
def updK {β : Type} : List (Nat × Option Blk) → Tri Blk → (Tri Blk → β) → β
 | [], T, k => k T
 | (a, some b) :: r, T, k => updK r T fun T => b.fK fun b => Tri.setK FU T a (some b) k
 | (a, none) :: r, T, k => updK r T fun T => Tri.setK FU T a none k
def newK {β : Type} : List Blk → Nat → Tri Blk → (Tri Blk → Nat → β) → β
 | [], n, T, k => k T n
 | b :: r, n, T, k => b.fK fun b => Tri.setK FU T n (some b) fun T => natK (n + 1) fun n => newK r n T k
def updOk (n : Nat) : List (Nat × Option Blk) → Bool
 | [] => true
 | (a, _) :: r => Nat.blt a n && updOk n r
def AOp.deep : AOp → Bool
 | .bin _ _ _ | .beq _ _ _ | .un _ _ | .conv _ _ | .len _ | .slen _ | .cap _ | .chr _ _ | .substr _ _ _ | .string _ | .min _ | .max _ | .acmp _ _ _ _ | .isnil _ _ _ | .mlen _ | .copy _ _ _ | .xfn _ _ _ | .snext _ => true
 | _ => false
def V.gK {β : Type} (d : Bool) (v : V) (k : V → β) : β := match d with | true => V.fK v k | false => V.sK v k
theorem V.gK_eq {β : Type} (d : Bool) (v : V) (k : V → β) : V.gK d v k = k v := by cases d <;> simp only [V.gK, V.fK_eq, V.sK_eq]
def effK {β : Type} (d : Bool) (e : Eff) (T : Tri Blk) (n : Nat) (k : V → Tri Blk → Nat → Option β) : Option β :=
 match updOk n e.upd && Nat.blt (n + e.new.length) big with
 | true => updK e.upd T fun T => newK e.new n T fun T n => V.gK d e.v fun v => k v T n
 | false => none
def goesR (g : Option (Nat × Bool)) (E : Env) : Option Bool :=
 match g with
 | none => some true
 | some (t, w) => match E.fget t with | some (.bool true) => some w | some (.bool false) => some (!w) | some (.tup []) => some false | _ => none
def opvalR (G : Nat → Option V) (E : Env) : AOpd → Option V
 | .t t => E.fget t
 | .c v => some v
 | .f k => some (.fn k [] [])
 | .g k => G k
def calleeR (G : Nat → Option V) (E : Env) (c : ACallee) (args : List AOpd) : Option (Tgt × List V) :=
 (evals (opvalR G E) args).bind fun vs =>
 match c with
 | .fn k => some (.fn k, vs)
 | .dyn x => match opvalR G E x with | some (.fn k fs cs) => some (.fn k, fs ++ vs ++ cs) | some (.yld a) => some (.yl a, vs) | _ => none
 | .meth x tab => match opvalR G E x with | some (.iface t v) => (lookN tab t).map fun k => (.fn k, v :: vs) | _ => none
def callOf : AOp → Option (ACallee × List AOpd)
 | .call c args => some (c, args)
 | _ => none
section
variable (L : Lib) (call : Callf)
def stepR (i : AI) (E : Env) (T : Tri Blk) (n : Nat) : Option St :=
 match goesR i.guard E with
 | some false => Env.putK E i.dst (.tup []) fun E => some (E, T, n)
 | some true =>
  match callOf i.op with
  | some (c, args) =>
   match calleeR L.G E c args with
   | some (t, vs) => spK vs fun vs => match call t vs T n with | some (r, T, n) => Env.putK E i.dst r fun E => some (E, T, n) | none => none
   | none => none
  | none => match i.op.exec n T.get (opvalR L.G E) with | some e => effK i.op.deep e T n fun v T n => Env.putK E i.dst v fun E => some (E, T, n) | none => none
 | none => none
def opsR : List AI → Env → Tri Blk → Nat → Option St
 | [], E, T, n => some (E, T, n)
 | i :: l, E, T, n => match stepR L call i E T n with | some (E, T, n) => opsR l E T n | none => none
end
end Go.Proofs.YtigdhgbkgfagiaaGreat
