/- AL: the runner: regions that draw their order; code; functions. -/
import Derived.Test.YtigdhgbkgfagiaaGreatZAlT
set_option linter.unusedVariables false
namespace Go.Proofs.YtigdhgbkgfagiaaGreat
mutual
def V.refs : V → List Nat → List Nat
 | .agg cs, acc => V.refss cs acc
 | .tup cs, acc => V.refss cs acc
 | .fn _ a b, acc => V.refss a (V.refss b acc)
 | .iface _ v, acc => V.refs v acc
 | .ref a _ _ _ _, acc => a :: acc
 | .ptr a _ _ _, acc => a :: acc
 | .yld a, acc => a :: acc
 | .mapp a, acc => a :: acc
 | .int _ _, acc => acc
 | .bool _, acc => acc
 | .str _, acc => acc
 | .lst _ _ _, acc => acc
 | .iptr _ _ _ _, acc => acc
 | .nilp, acc => acc
 | .nilf, acc => acc
 | .nili, acc => acc
 | .bot, acc => acc
 | .nilm, acc => acc
def V.refss : List V → List Nat → List Nat
 | [], acc => acc
 | v :: r, acc => V.refs v (V.refss r acc)
end
def rowsRefs : List (List V) → List Nat → List Nat
 | [], acc => acc
 | r :: l, acc => V.refss r (rowsRefs l acc)
def envRefs : List (Nat × V) → List Nat → List Nat
 | [], acc => acc
 | p :: l, acc => V.refs p.2 (envRefs l acc)
def entsRefs : List (V × V) → List Nat → List Nat
 | [], acc => acc
 | p :: l, acc => V.refs p.1 (V.refs p.2 (entsRefs l acc))
def Blk.refs : Blk → List Nat → List Nat
 | .arr _ rows, acc => rowsRefs rows acc
 | .loop _ E _ _ _, acc => envRefs E acc
 | .stop _, acc => acc
 | .map es _ _, acc => entsRefs es acc
 | .iter m _ _ _, acc => match m with | some a => a :: acc | none => acc
 | .siter _ _, acc => acc
 | .junk, acc => acc
def reach (T : Tri Blk) : Nat → List Nat → List Nat → List Nat
 | 0, _, seen => seen
 | f + 1, [], seen => seen
 | f + 1, a :: r, seen => match memB a seen with | true => reach T f r seen | false => match T.get a with | some b => reach T f (b.refs r) (a :: seen) | none => reach T f r seen
mutual
def eqV : V → V → Bool
 | .int j a, .int k b => decide (j = k) && decide (a = b)
 | .bool a, .bool b => a == b
 | .str a, .str b => a == b
 | .agg a, .agg b => eqVs a b
 | .tup a, .tup b => eqVs a b
 | .fn f a b, .fn g c d => Nat.beq f g && (eqVs a c && eqVs b d)
 | .iface t v, .iface u w => Nat.beq t u && eqV v w
 | .ref a s o l c, .ref a' s' o' l' c' => (Nat.beq a a' && Nat.beq s s') && ((Nat.beq o o' && Nat.beq l l') && decide (c = c'))
 | .ptr a s i o, .ptr a' s' i' o' => (Nat.beq a a' && Nat.beq s s') && (Nat.beq i i' && Nat.beq o o')
 | .nilp, .nilp => true
 | .nilf, .nilf => true
 | .nili, .nili => true
 | .bot, .bot => true
 | .nilm, .nilm => true
 | .yld a, .yld b => Nat.beq a b
 | .mapp a, .mapp b => Nat.beq a b
 | _, _ => false
def eqVs : List V → List V → Bool
 | [], [] => true
 | a :: r, b :: s => eqV a b && eqVs r s
 | _, _ => false
end
mutual
theorem eqV_eq : ∀ {a b : V}, eqV a b = true → a = b
 | .int j a, b, h => by cases b <;> simp [eqV] at h; simp [h]
 | .bool a, b, h => by cases b <;> simp [eqV] at h; simp [h]
 | .str a, b, h => by cases b <;> simp [eqV] at h; simp [h]
 | .agg a, b, h => by cases b <;> simp [eqV] at h; rw [eqVs_eq h]
 | .tup a, b, h => by cases b <;> simp [eqV] at h; rw [eqVs_eq h]
 | .fn f a b, c, h => by cases c <;> simp [eqV] at h; rw [h.1, eqVs_eq h.2.1, eqVs_eq h.2.2]
 | .iface t v, b, h => by cases b <;> simp [eqV] at h; rw [h.1, eqV_eq h.2]
 | .ref a s o l c, b, h => by cases b <;> simp [eqV] at h; simp [h]
 | .ptr a s i o, b, h => by cases b <;> simp [eqV] at h; simp [h]
 | .lst s r c, b, h => by cases b <;> simp [eqV] at h
 | .iptr s r i o, b, h => by cases b <;> simp [eqV] at h
 | .nilp, b, h => by cases b <;> simp [eqV] at h; rfl
 | .nilf, b, h => by cases b <;> simp [eqV] at h; rfl
 | .nili, b, h => by cases b <;> simp [eqV] at h; rfl
 | .bot, b, h => by cases b <;> simp [eqV] at h; rfl
 | .nilm, b, h => by cases b <;> simp [eqV] at h; rfl
 | .yld a, b, h => by cases b <;> simp [eqV] at h; simp [h]
 | .mapp a, b, h => by cases b <;> simp [eqV] at h; simp [h]
theorem eqVs_eq : ∀ {a b : List V}, eqVs a b = true → a = b
 | [], b, h => by cases b <;> simp [eqVs] at h; rfl
 | a :: r, b, h => by cases b <;> simp [eqVs] at h; rw [eqV_eq h.1, eqVs_eq h.2]
end
def eqRows : List (List V) → List (List V) → Bool
 | [], [] => true
 | a :: r, b :: s => eqVs a b && eqRows r s
 | _, _ => false
theorem eqRows_eq : ∀ {a b : List (List V)}, eqRows a b = true → a = b
 | [], b, h => by cases b <;> simp [eqRows] at h; rfl
 | a :: r, b, h => by cases b <;> simp [eqRows] at h; rw [eqVs_eq h.1, eqRows_eq h.2]
def eqEnts : List (V × V) → List (V × V) → Bool
 | [], [] => true
 | a :: r, b :: s => (eqV a.1 b.1 && eqV a.2 b.2) && eqEnts r s
 | _, _ => false
theorem eqEnts_eq : ∀ {a b : List (V × V)}, eqEnts a b = true → a = b
 | [], b, h => by cases b <;> simp [eqEnts] at h; rfl
 | a :: r, b, h => by cases b <;> simp [eqEnts] at h; rw [eqEnts_eq h.2, Prod.ext (eqV_eq h.1.1) (eqV_eq h.1.2)]
def eqNs : List Nat → List Nat → Bool
 | [], [] => true
 | a :: r, b :: s => Nat.beq a b && eqNs r s
 | _, _ => false
theorem eqNs_eq : ∀ {a b : List Nat}, eqNs a b = true → a = b
 | [], b, h => by cases b <;> simp [eqNs] at h; rfl
 | a :: r, b, h => by cases b <;> simp [eqNs] at h; rw [h.1, eqNs_eq h.2]
def eqON : Option Nat → Option Nat → Bool
 | none, none => true
 | some a, some b => Nat.beq a b
 | _, _ => false
theorem eqON_eq : ∀ {a b : Option Nat}, eqON a b = true → a = b
 | none, b, h => by cases b <;> simp [eqON] at h; rfl
 | some a, b, h => by cases b <;> simp [eqON] at h; rw [h]
def eqB : Option Blk → Option Blk → Bool
 | some (.arr s rows), some (.arr s' rows') => Nat.beq s s' && eqRows rows rows'
 | some (.map es bs c), some (.map es' bs' c') => (eqEnts es es' && eqNs bs bs') && Nat.beq c c'
 | some (.iter m s l c), some (.iter m' s' l' c') => (eqON m m' && Nat.beq s s') && (eqNs l l' && Nat.beq c c')
 | some (.siter s p), some (.siter s' p') => s == s' && Nat.beq p p'
 | some .junk, some .junk => true
 | none, none => true
 | _, _ => false
theorem eqB_eq {a b : Option Blk} (h : eqB a b = true) : a = b := by
 unfold eqB at h
 split at h
 ·simp at h; rw [h.1, eqRows_eq h.2]
 ·simp at h; rw [eqEnts_eq h.1.1, eqNs_eq h.1.2, h.2]
 ·simp at h; rw [eqON_eq h.1.1, h.1.2, eqNs_eq h.2.1, h.2.2]
 ·simp at h; rw [h.1, h.2]
 ·rfl
 ·rfl
 ·cases h
def posN : List Nat → Nat → Nat → Option Nat
 | [], _, _ => none
 | b :: r, a, i => bif Nat.beq b a then some i else posN r a (i + 1)
theorem posN_eq : ∀ (l : List Nat) (a i : Nat), posN l a i = posIn (l.map some) a i
 | [], a, i => rfl
 | b :: r, a, i => by simp only [posN, List.map_cons, posIn, posN_eq r, beq_nat]
def sgN (S : List Nat) (a : Nat) : Sg := match posN S a 0 with | some k => .to k | none => .drop
theorem sgN_eq (H : Heap) (S : List Nat) : sgOf H (S.map some) [] = sgN S := by
 funext a
 unfold sgOf sgN
 rw [posN_eq]
 cases posIn (S.map some) a 0 <;> rfl
def subK {β : Type} (T : Tri Blk) (σ : Nat → Sg) : List Nat → Nat → Tri Blk → (Tri Blk → β) → β
 | [], _, T0, k => k T0
 | a :: r, i, T0, k => match T.get a with
  | some b => (b.ren σ).dK fun b => Tri.setK FU T0 i (some b) fun T0 => natK (i + 1) fun i => subK T σ r i T0 k
  | none => natK (i + 1) fun i => subK T σ r i T0 k
def toH (T : Tri Blk) : Nat → Nat → Heap
 | 0, _ => []
 | f + 1, i => T.get i :: toH T f (i + 1)
def quietN (T T' : Tri Blk) (σ : Nat → Sg) : List Nat → Nat → List Nat
 | [], _ => []
 | a :: r, i => match eqB ((T'.get i).map (Blk.ren σ)) (T.get a) with | true => i :: quietN T T' σ r (i + 1) | false => quietN T T' σ r (i + 1)
def backOldK {β : Type} (T' : Tri Blk) (σ : Nat → Sg) (quiet : List Nat) : List Nat → Nat → Tri Blk → (Tri Blk → β) → β
 | [], _, T, k => k T
 | a :: r, i, T, k => match memB i quiet with
  | true => natK (i + 1) fun i => backOldK T' σ quiet r i T k
  | false => match T'.get i with
   | some b => (b.ren σ).dK fun b => Tri.setK FU T a (some b) fun T => natK (i + 1) fun i => backOldK T' σ quiet r i T k
   | none => Tri.setK FU T a none fun T => natK (i + 1) fun i => backOldK T' σ quiet r i T k
def backNewK {β : Type} (T' : Tri Blk) (σ : Nat → Sg) : Nat → Nat → Nat → Tri Blk → (Tri Blk → β) → β
 | 0, _, _, T, k => k T
 | f + 1, i, n, T, k => match T'.get i with
  | some b => (b.ren σ).dK fun b => Tri.setK FU T n (some b) fun T => natK (i + 1) fun i => natK (n + 1) fun n => backNewK T' σ f i n T k
  | none => natK (i + 1) fun i => natK (n + 1) fun n => backNewK T' σ f i n T k
def allBlt (n : Nat) : List Nat → Bool
 | [] => true
 | a :: r => Nat.blt a n && allBlt n r
def nodupN : List Nat → Bool
 | [] => true
 | a :: r => !memB a r && nodupN r
def Tgt.subN (S : List Nat) : Tgt → Option Tgt
 | .fn k => some (.fn k)
 | .yl a => match posN S a 0 with | some i => some (.yl i) | none => none
section
variable (L : Lib) (call : Callf)
def callD {β : Type} (t : Tgt) (vs : List V) (T : Tri Blk) (n : Nat) (k : V → List Nat → List (Nat × Option Blk) → Nat → Tri Blk → Nat → Option β) : Option β :=
 natsK (reach T 100000 ((match t with | .yl a => (a :: ·) | .fn _ => id) (V.refss vs [])) []) fun S =>
 natK S.length fun m =>
 match Tgt.subN S t, (allBlt n S && nodupN S) && Nat.blt m big with
 | some t', true =>
  V.fsK (V.rens (sgN S) vs) fun vs' =>
  subK T (sgN S) S 0 .e fun T0 =>
  match call t' vs' T0 m with
  | some (r0, T', n') =>
   match Nat.ble m n' && Nat.blt (n + (n' - m)) big with
   | true =>
    natsK (quietN T T' (outσ n S) S 0) fun quiet =>
    backOldK T' (outσ n S) quiet S 0 T fun T2 =>
    backNewK T' (outσ n S) (n' - m) m n T2 fun T2 =>
    natK (n + (n' - m)) fun n2 =>
    V.fK (r0.ren (outσ n S)) fun r => k r S (effB n S quiet (toH T' n' 0)) (n' - m) T2 n2
   | false => none
  | none => none
 | _, _ => none
def dstepR {β : Type} (i : AI) (E : Env) (T : Tri Blk) (n : Nat) (k : Rec → Env → Tri Blk → Nat → Option β) : Option β :=
 match goesR i.guard E with
 | some false => Env.putK E i.dst (.tup []) fun E => k { dst := i.dst, looks := i.looks, v := some (.tup []), need := [], eff := [], slot := n, k := 0 } E T n
 | some true =>
  match callOf i.op with
  | some (c, args) =>
   match calleeR L.G E c args with
   | some (t, vs) => spK vs fun vs => callD call t vs T n fun r nd ef kk T2 n2 => Env.putK E i.dst r fun E => k { dst := i.dst, looks := i.looks, v := some r, need := nd, eff := ef, slot := n, k := kk } E T2 n2
   | none => none
  | none => match i.op.exec n T.get (opvalR L.G E) with
   | some e => effK i.op.deep e T n fun v T2 n2 => Env.putK E i.dst v fun E => k { dst := i.dst, looks := i.looks, v := some e.v, need := e.need, eff := e.all n, slot := n, k := e.new.length } E T2 n2
   | none => none
 | none => none
def dopsR : List AI → List Rec → List Nat → Env → Tri Blk → Nat → Option St
 | [], _, _, E, T, n => some (E, T, n)
 | i :: l, rs, ms, E, T, n => dstepR L call i E T n fun r E T n =>
  natK (ancM ms i.anc) fun m => match indB m r 0 rs with | true => dopsR l (rs ++ [r]) (ms ++ [m]) E T n | false => none
def eqL0 : V → V → Bool
 | .lst s r c, .lst s' r' c' => (Nat.beq s s' && eqRows r r') && eqON c c'
 | a, b => eqV a b
def eqOV : Option V → Option V → Bool
 | some a, some b => eqL0 a b
 | none, none => true
 | _, _ => false
def sameRec (o : Option Rec) (s : Rec) : Bool :=
 match o with
 | some t => ((eqON t.dst s.dst && eqNs t.looks s.looks) && (eqOV t.v s.v && eqNs t.need s.need)) && ((t.eff.isEmpty && s.eff.isEmpty) && (Nat.beq t.slot s.slot && Nat.beq t.k s.k))
 | none => false
def indWB (T : Tri Blk) (m : Nat) (r : Rec) : Nat → List Rec → List (AI × Env) → Bool
 | _, [], _ => true
 | i, s :: l, as => ((m.testBit i || apartB s r) || (match as with | a :: _ => (softB s r && clearB s l) && sameRec (a.1.plain L.G s.slot a.2.get T.get) s | [] => false)) && indWB T m r (i + 1) l as.tail
def dopsW : List AI → List Rec → List (AI × Env) → List Nat → Env → Tri Blk → Nat → Option St
 | [], _, _, _, E, T, n => some (E, T, n)
 | i :: l, rs, as, ms, E, T, n => dstepR L call i E T n fun r E1 T1 n1 =>
  natK (ancM ms i.anc) fun m => match indWB L T1 m r 0 rs as with | true => dopsW l (rs ++ [r]) (as ++ [(i, E)]) (ms ++ [m]) E1 T1 n1 | false => none
def orW (o w : Option St) : Option St := match o with | some s => some s | none => w
abbrev StX := Exit × Env × Tri Blk × Nat
def loopR (body : Env → Tri Blk → Nat → Option StX) : Nat → Env → Tri Blk → Nat → Option StX
 | 0, _, _, _ => none
 | f + 1, E, T, n => match body E T n with
  | some (.normal, E, T, n) => loopR body f E T n
  | r => r
def codeR (fuel N : Nat) : AC → Env → Tri Blk → Nat → Option StX
 | .skip, E, T, n => some (.normal, E, T, n)
 | .ops false l ks, E, T, n => match opsR L call l E T n with | some (E, T, n) => Env.killK E ks fun E => some (.normal, E, T, n) | none => none
 | .ops true l ks, E, T, n => match orW (dopsR L call l [] [] E T n) (dopsW L call l [] [] [] E T n) with | some (E, T, n) => Env.killK E ks fun E => some (.normal, E, T, n) | none => none
 | .seq a b, E, T, n => match codeR fuel N a E T n with
  | some (.normal, E, T, n) => codeR fuel N b E T n
  | r => r
 | .cond c a b, E, T, n => match opvalR L.G E c with
  | some (.bool true) => codeR fuel N a E T n
  | some (.bool false) => codeR fuel N b E T n
  | _ => none
 | .block id a, E, T, n => match codeR fuel N a E T n with
  | some (.exit id', E, T, n) => match Nat.beq id' id with | true => some (.normal, E, T, n) | false => some (.exit id', E, T, n)
  | r => r
 | .loop a, E, T, n => loopR (codeR fuel N a) fuel E T n
 | .exit id, E, T, n => some (.exit id, E, T, n)
 | .ret, E, T, n => some (.ret, E, T, n)
 | .range g ps ad body, E, T, n => match opvalR L.G E g with
  | some (.fn k fs cs) => match Nat.blt n big with
   | true => Tri.setK FU T n (some (.loop N E ps ad body)) fun T => natK (n + 1) fun n1 =>
    match call (.fn k) (fs ++ [.yld n] ++ cs) T n1 with
    | some (_, T', n') => match Nat.blt n n' with
     | true => match T'.get n with
      | some (.loop _ _ _ _ _) => Tri.setK FU T' n none fun T' => some (.normal, E, T', n')
      | some (.stop .ret) => Tri.setK FU T' n none fun T' => some (.ret, E, T', n')
      | some (.stop (.exit id)) => Tri.setK FU T' n none fun T' => some (.exit id, E, T', n')
      | _ => none
     | false => none
    | none => none
   | false => none
  | _ => none
 | .no, _, _, _ => none
def bindAll {α β : Type} (f : α → Option (List β)) : List α → Option (List β)
 | [] => some []
 | x :: r => (f x).bind fun a => (bindAll f r).bind fun b => some (a ++ b)
def opsN (L : Lib) (call : Callf) : List AI → Env → Tri Blk → Nat → Option (List St)
 | [], E, T, n => some [(E, T, n)]
 | i :: l, E, T, n =>
  match i.op, goesR i.guard E with
  | .mnext x, some true => ((opvalR L.G E x).bind (nextE T.get)).bind (bindAll fun e => effK false e T n fun v T2 n2 => opsN L call l (E.put i.dst v) T2 n2)
  | _, _ => match stepR L call i E T n with | some (E, T, n) => opsN L call l E T n | none => none
def loopN (body : Env → Tri Blk → Nat → Option (List StX)) : Nat → Env → Tri Blk → Nat → Option (List StX)
 | 0, _, _, _ => none
 | f + 1, E, T, n => (body E T n).bind (bindAll fun o => match o with | (.normal, E, T, n) => loopN body f E T n | o => some [o])
def codeN (L : Lib) (call : Callf) (fuel N : Nat) : AC → Env → Tri Blk → Nat → Option (List StX)
 | .ops false l ks, E, T, n => (opsN L call l E T n).map fun outs => outs.map fun o => (.normal, o.1.kill ks, o.2.1, o.2.2)
 | .seq a b, E, T, n => (codeN L call fuel N a E T n).bind (bindAll fun o => match o with | (.normal, E, T, n) => codeN L call fuel N b E T n | o => some [o])
 | .cond c a b, E, T, n => match opvalR L.G E c with
  | some (.bool true) => codeN L call fuel N a E T n
  | some (.bool false) => codeN L call fuel N b E T n
  | _ => none
 | .block id a, E, T, n => (codeN L call fuel N a E T n).map fun outs => outs.map fun o => match o with | (.exit id', E, T, n) => (match Nat.beq id' id with | true => (.normal, E, T, n) | false => (.exit id', E, T, n)) | o => o
 | .loop a, E, T, n => loopN (codeN L call fuel N a) fuel E T n
 | c, E, T, n => (codeR L call fuel N c E T n).map fun o => [o]
def eqL : V → V → Bool
 | .lst s r c, .lst s' r' c' => (Nat.beq s s' && eqRows r r') && eqON c c'
 | a, b => eqV a b
def sameN (T T' : Tri Blk) (σ : Nat → Sg) : Nat → Bool
 | 0 => true
 | a + 1 => eqB ((T'.get a).map (Blk.ren σ)) (T.get a) && sameN T T' σ a
def ndσ (n : Nat) (T' : Tri Blk) (n' : Nat) (v : V) : Nat → Sg := sgOf (toH T' n' 0) ((List.range n).map some) (V.refs v [])
def ndOut (F : AFunc) (T : Tri Blk) (n : Nat) (o : StX) : Option V :=
 match o with
 | (.normal, E, T', n') | (.ret, E, T', n') => (resV E.fget T'.get F.results).bind fun v => if sameN T T' (ndσ n T' n' v) n = true then some (v.ren (ndσ n T' n' v)) else none
 | _ => none
def ndAll (F : AFunc) (T : Tri Blk) (n : Nat) (v : V) : List StX → Bool
 | [] => true
 | o :: r => (match ndOut F T n o with | some w => eqL w v | none => false) && ndAll F T n v r
def ndR (L : Lib) (call : Callf) (k : Nat) (args : List V) (T : Tri Blk) (n : Nat) : Option (V × Tri Blk × Nat) :=
 match L.T k with
 | some F => match Nat.beq args.length F.nargs with
  | true => match codeN L call 1000 F.ntmps F.body (argE args 0) T n with
   | some (o :: outs) => match ndOut F T n o with
    | some v => if ndAll F T n v outs = true then some (v, T, n) else none
    | none => none
   | _ => none
  | false => none
 | none => none
def funcR (L : Lib) : Nat → Callf
 | 0, _, _, _, _ => none
 | f + 1, .fn k, args, T, n => match L.X k args with
  | some r => some (r, T, n)
  | none => match L.R k args T.get with
  | some r => some (r, T, n)
  | none => match L.nd k with
  | true => ndR L (funcR L f) k args T n
  | false => match L.T k with
  | some F => match Nat.beq args.length F.nargs with
   | true => match codeR L (funcR L f) 1000000 F.ntmps F.body (argE args 0) T n with
    | some (.normal, E, T, n) => match resV E.fget T.get F.results with | some v => V.sK v fun v => some (v, T, n) | none => none
    | some (.ret, E, T, n) => match resV E.fget T.get F.results with | some v => V.sK v fun v => some (v, T, n) | none => none
    | _ => none
   | false => none
  | none => none
 | f + 1, .yl a, args, T, n => match T.get a with
  | some (.loop nt E ps ad body) => match (Nat.beq args.length ps.length && allBlt nt ps) && (Nat.blt a n && Nat.blt n big) with
   | true => Tri.setK FU T a none fun T0 =>
    match codeR L (funcR L f) 1000000 nt ad (putArgs E ps args) T0 n with
    | some (.normal, E1, T1, n1) => match codeR L (funcR L f) 1000000 nt body E1 T1 n1 with
     | some (e, E2, T2, n2) => match T2.get a, Nat.ble n n2, e with
      | none, true, .normal => Tri.setK FU T2 a (some (.loop nt E ps ad body)) fun T2 => some (.bool true, T2, n2)
      | none, true, .ret => Tri.setK FU T2 a (some (.stop .ret)) fun T2 => some (.bool false, T2, n2)
      | none, true, .exit id => Tri.setK FU T2 a (some (.stop (.exit id))) fun T2 => some (.bool false, T2, n2)
      | _, _, _ => none
     | none => none
    | _ => none
   | false => none
  | _ => none
end
end Go.Proofs.YtigdhgbkgfagiaaGreat
