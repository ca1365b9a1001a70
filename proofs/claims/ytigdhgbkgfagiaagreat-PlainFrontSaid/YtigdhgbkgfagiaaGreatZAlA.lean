/- AL: an abstract language for the walked code: values by value, a heap of few blocks, no tape, no capacities behind append, no order of evaluation. Here: its values, its operations, what they yield; and the translation of the model's code into it. -/
import Derived.WalkKit
import Derived.Lib.Bytealg
set_option linter.unusedVariables false
namespace Go.Proofs.YtigdhgbkgfagiaaGreat
inductive V where
 | int (k : IntKind) (n : Int)
 | bool (b : Bool)
 | str (s : List UInt8)
 | agg (cs : List V)
 | lst (size : Nat) (rows : List (List V)) (cap : Option Nat)
 | iptr (size : Nat) (rows : List (List V)) (i o : Nat)
 | ref (a size off len : Nat) (cap : Option Nat)
 | ptr (a size i o : Nat)
 | nilp
 | fn (f : Nat) (first caps : List V)
 | nilf
 | iface (t : Nat) (v : V)
 | nili
 | tup (vs : List V)
 | bot
 | yld (a : Nat)
 | mapp (a : Nat)
 | nilm
inductive AOpd where
 | t (n : Nat)
 | c (v : V)
 | f (n : Nat)
 | g (n : Nat)
inductive Shp where
 | leaf (c : Nat)
 | arr (n size : Nat) (lf : Bool) (e : Shp)
 | nil
 | fld (off size : Nat) (lf : Bool) (s rest : Shp)
inductive ACallee where
 | fn (f : Nat)
 | dyn (x : AOpd)
 | meth (x : AOpd) (tab : List (Nat × Nat))
inductive AOp where
 | mov (x : AOpd)
 | pick (c a b : AOpd)
 | box (x : AOpd)
 | alloc (zero : List V)
 | build (zero : List V) (parts : List (Nat × Nat × AOpd))
 | bslice (size : Nat) (zero : List V) (len : Nat) (parts : List (Nat × AOpd))
 | load (n : Nat) (leaf : Bool) (p : AOpd)
 | store (n : Nat) (p x : AOpd)
 | nilchk (x : AOpd)
 | bin (op : BinOp) (x y : AOpd)
 | beq (neg : Bool) (x y : AOpd)
 | isnil (c : Nat) (neg : Bool) (x : AOpd)
 | acmp (s : Shp) (neg : Bool) (x y : AOpd)
 | un (op : UnOp) (x : AOpd)
 | conv (k : IntKind) (x : AOpd)
 | same (x : AOpd)
 | bytes (x : AOpd)
 | string (x : AOpd)
 | mkiface (t : Nat) (x : AOpd)
 | mkfn (f : Nat) (first caps : List AOpd)
 | mkslice (size bytes : Nat) (zero : List V) (len cap : AOpd)
 | slice (size : Nat) (x : AOpd) (lo hi mx : Option AOpd)
 | slicea (size n : Nat) (x : AOpd) (lo hi mx : Option AOpd)
 | substr (x : AOpd) (lo hi : Option AOpd)
 | fa (x : AOpd) (off : Nat)
 | fld (x : AOpd) (off n : Nat) (leaf : Bool)
 | ia (size : Nat) (x i : AOpd)
 | iaa (size len : Nat) (x i : AOpd)
 | chr (x i : AOpd)
 | idx (size len : Nat) (leaf : Bool) (x i : AOpd)
 | ext (x : AOpd) (i : Nat)
 | len (x : AOpd)
 | slen (x : AOpd)
 | cap (x : AOpd)
 | append (size bytes : Nat) (x y : AOpd)
 | copy (size : Nat) (x y : AOpd)
 | clr (size : Nat) (zero : List V) (x : AOpd)
 | min (xs : List AOpd)
 | max (xs : List AOpd)
 | mkmap (r : Option AOpd)
 | mget (kc : Nat) (zero : V) (ok : Bool) (m k : AOpd)
 | mset (kc : Nat) (m k x : AOpd)
 | mdel (kc : Nat) (m k : AOpd)
 | mlen (m : AOpd)
 | mrange (x : AOpd)
 | srange (x : AOpd)
 | mnext (x : AOpd)
 | snext (x : AOpd)
 | mentry (x : AOpd)
 | mapent (kc : Nat) (zero : V) (m k : AOpd)
 | entstore (m s x : AOpd)
 | xfn (k : Nat) (x y : AOpd)
 | call (c : ACallee) (args : List AOpd)
 | no
def AOp.isCall : AOp → Bool
 | .call _ _ => true
 | _ => false
structure AI where
 dst : Option Nat
 op : AOp
 guard : Option (Nat × Bool)
 anc : List Nat
inductive AC where
 | skip
 | ops (draw : Bool) (l : List AI) (kill : List Nat)
 | seq (a b : AC)
 | cond (c : AOpd) (a b : AC)
 | block (id : Nat) (a : AC)
 | loop (a : AC)
 | range (g : AOpd) (ps : List Nat) (ad body : AC)
 | exit (id : Nat)
 | ret
 | no
inductive Blk where
 | arr (size : Nat) (rows : List (List V))
 | loop (nt : Nat) (E : List (Nat × V)) (ps : List Nat) (ad body : AC)
 | stop (j : AC)
 | map (es : List (V × V)) (bs : List Nat) (clk : Nat)
 | iter (m : Option Nat) (since : Nat) (seen : List Nat) (last : Nat)
 | siter (s : List UInt8) (pos : Nat)
 | junk
abbrev Heap := List (Option Blk)
def Heap.get (H : Heap) (a : Nat) : Option Blk := H[a]?.getD none
abbrev Env := List (Nat × V)
def Env.get : Env → Nat → Option V
 | [], _ => none
 | (k, v) :: r, t => bif k == t then some v else Env.get r t
def Env.set : Env → Nat → V → Env
 | [], t, v => [(t, v)]
 | (k, w) :: r, t, v => bif k == t then (t, v) :: r else bif t.blt k then (t, v) :: (k, w) :: r else (k, w) :: Env.set r t v
def Env.kill (e : Env) (ts : List Nat) : Env := e.filter fun p => !ts.contains p.1
def Env.put (e : Env) : Option Nat → V → Env
 | some t, v => e.set t v
 | none, _ => e
inductive ARes where
 | t (n : Nat)
 | cell (n size : Nat) (leaf : Bool)
structure AFunc where
 ntmps : Nat
 nargs : Nat
 kills : List (List Nat)
 results : List ARes
 body : AC
def lookN : List (Nat × Nat) → Nat → Option Nat
 | [], _ => none
 | p :: r, t => bif Nat.beq p.1 t then some p.2 else lookN r t
structure Eff where
 v : V
 need : List Nat := []
 upd : List (Nat × Option Blk) := []
 new : List Blk := []
def V.cells : V → List V
 | .agg cs => cs
 | v => [v]
def V.one : V → Bool
 | .agg _ | .tup _ => false
 | _ => true
def V.isVal : V → Bool
 | .tup _ => false
 | _ => true
def V.nat? : V → Option Nat
 | .int _ n => if 0 ≤ n then some n.toNat else none
 | _ => none
def evals (ρ : AOpd → Option V) : List AOpd → Option (List V)
 | [] => some []
 | x :: r => (ρ x).bind fun v => (evals ρ r).bind fun vs => some (v :: vs)
def takeCells (row : List V) (o n : Nat) (leaf : Bool) : Option V :=
 let cs := (row.drop o).take n
 if leaf then (match cs with | [c] => some c | _ => none) else if cs.length = n then some (.agg cs) else none
def rowsOf (size : Nat) (get : Nat → Option Blk) : V → Option (List (List V) × List Nat)
 | .lst size' rows _ => if size' = size ∨ rows.length = 0 then some (rows, []) else none
 | .ref a size' off len _ =>
  match get a with
  | some (.arr size'' rows) => if size' = size ∧ size'' = size ∧ off + len ≤ rows.length then some ((rows.drop off).take len, [a]) else none
  | _ => none
 | .str s => if size = 1 then some (s.map fun b => [.int .u8 b.toNat], []) else none
 | _ => none
def over (l : List (List V)) (at' : Nat) (r : List (List V)) : List (List V) := l.take at' ++ r ++ l.drop (at' + r.length)
def intBitsV (op : BinOp) (k : IntKind) (x y : Int) : Option V :=
 let a := BitVec.ofInt k.bits x
 let b := BitVec.ofInt k.bits y
 match op with
 | .and => some (.int k (k.wrap (a &&& b).toNat))
 | .or => some (.int k (k.wrap (a ||| b).toNat))
 | .xor => some (.int k (k.wrap (a ^^^ b).toNat))
 | .andNot => some (.int k (k.wrap (a &&& ~~~b).toNat))
 | _ => none
def binInt (op : BinOp) (k : IntKind) (x y : Int) : Option V :=
 match op with
 | .add => some (.int k (k.wrap (x + y)))
 | .sub => some (.int k (k.wrap (x - y)))
 | .mul => some (.int k (k.wrap (x * y)))
 | .quo => if y = 0 then none else some (.int k (k.wrap (x.tdiv y)))
 | .rem => if y = 0 then none else some (.int k (x.tmod y))
 | .and | .or | .xor | .andNot => intBitsV op k x y
 | .eql => some (.bool (x == y))
 | .neq => some (.bool (x != y))
 | .lss => some (.bool (decide (x < y)))
 | .leq => some (.bool (decide (x ≤ y)))
 | .gtr => some (.bool (decide (x > y)))
 | .geq => some (.bool (decide (x ≥ y)))
 | _ => none
def shiftInt (op : BinOp) (k : IntKind) (x y : Int) : Option V :=
 if y < 0 then none else
 let n := Nat.min y.toNat k.bits
 match op with
 | .shl => some (.int k (k.wrap (x * 2 ^ n)))
 | .shr => some (.int k (x.fdiv (2 ^ n)))
 | _ => none
def strBig : Nat := 1152921504606846976
def binStr (op : BinOp) (x y : List UInt8) : Option V :=
 match op with
 | .add => if x.length + y.length ≤ strBig then some (.str (x ++ y)) else none
 | .eql => some (.bool (x == y))
 | .neq => some (.bool (!(x == y)))
 | .lss => some (.bool (Op.bytesLess x y))
 | .leq => some (.bool (Op.bytesLess x y || x == y))
 | .gtr => some (.bool (!(Op.bytesLess x y || x == y)))
 | .geq => some (.bool (!Op.bytesLess x y))
 | _ => none
def binV (op : BinOp) : V → V → Option V
 | .int j a, .int k b =>
  match op with
  | .shl | .shr => shiftInt op j a b
  | _ => if j = k then binInt op j a b else none
 | .str a, .str b => binStr op a b
 | _, _ => none
def unV (op : UnOp) : V → Option V
 | .int k n =>
  match op with
  | .neg => some (.int k (k.wrap (0 - n)))
  | .xor => intBitsV .xor k (if k.signed then -1 else k.max) n
  | _ => none
 | .bool b => match op with | .not => some (.bool (!b)) | _ => none
 | _ => none
def foldInts (pick : Int → Int → Int) : V → List V → Option V
 | v, [] => some v
 | .int k x, .int k' y :: r => if k = k' then foldInts pick (.int k (pick x y)) r else none
 | _, _ => none
def optNat (ρ : AOpd → Option V) (d : Nat) : Option AOpd → Option Nat
 | none => some d
 | some x => (ρ x).bind V.nat?
def fillCells (cells : List V) : List (Nat × Nat × V) → Option (List V)
 | [] => some cells
 | (off, size, v) :: r =>
  if v.cells.length = size ∧ v.isVal = true ∧ off + size ≤ cells.length then fillCells (cells.take off ++ v.cells ++ cells.drop (off + size)) r else none
def evalParts (ρ : AOpd → Option V) : List (Nat × Nat × AOpd) → Option (List (Nat × Nat × V))
 | [] => some []
 | (a, b, x) :: r => (ρ x).bind fun v => (evalParts ρ r).bind fun vs => some ((a, b, v) :: vs)
def evalParts1 (ρ : AOpd → Option V) : List (Nat × AOpd) → Option (List (Nat × V))
 | [] => some []
 | (a, x) :: r => (ρ x).bind fun v => (evalParts1 ρ r).bind fun vs => some ((a, v) :: vs)
def fillRows (size : Nat) (rows : List (List V)) : List (Nat × V) → Option (List (List V))
 | [] => some rows
 | (i, v) :: r => if v.cells.length = size ∧ v.isVal = true ∧ i < rows.length then fillRows size (rows.set i v.cells) r else none
def roomOk (need bytes : Nat) : Bool := decide (need * bytes ≤ 140737488355328)
def appendV (n size bytes : Nat) (get : Nat → Option Blk) (x y : V) : Option Eff :=
 (rowsOf size get y).bind fun (ys, ny) =>
 match x with
 | .lst size' rows cap =>
  if ys.length = 0 then some { v := x, need := ny }
  else
  match cap with
  | some c =>
   if c < rows.length + ys.length ∧ (size' = size ∨ rows.length = 0) ∧ roomOk (rows.length + ys.length) bytes then
    some { v := .ref n size 0 (rows.length + ys.length) none, need := ny, new := [.arr size (rows ++ ys)] }
   else none
  | none => none
 | .ref a size' off len cap =>
  match get a with
  | some (.arr size'' rows) =>
   if size' = size ∧ size'' = size ∧ off + len ≤ rows.length then
    match cap with
    | some c =>
     if len + ys.length ≤ c then
      if off + len + ys.length ≤ rows.length then
       some { v := .ref a size off (len + ys.length) (some c), need := a :: ny, upd := [(a, some (.arr size (over rows (off + len) ys)))] }
      else none
     else if roomOk (len + ys.length) bytes then
      some { v := .ref n size 0 (len + ys.length) none, need := a :: ny, new := [.arr size ((rows.drop off).take len ++ ys)] }
     else none
    | none =>
     if off = 0 ∧ len = rows.length ∧ roomOk (len + ys.length) bytes then
      some { v := .ref n size 0 (len + ys.length) none, need := a :: ny, upd := [(a, none)], new := [.arr size (rows ++ ys)] }
     else none
   else none
  | _ => none
 | _ => none
def copyV (size : Nat) (get : Nat → Option Blk) (x y : V) : Option Eff :=
 (rowsOf size get y).bind fun (ys, ny) =>
 match x with
 | .lst _ rows _ => if rows.length = 0 ∨ ys.length = 0 then some { v := .int .i64 0, need := ny } else none
 | .ref a size' off len cap =>
  match get a with
  | some (.arr size'' rows) =>
   if size' = size ∧ size'' = size ∧ off + len ≤ rows.length then
    some { v := .int .i64 (Nat.min ys.length len), need := a :: ny, upd := [(a, some (.arr size (over rows off (ys.take len))))] }
   else none
  | _ => none
 | _ => none
def clrV (size : Nat) (zero : List V) (get : Nat → Option Blk) (x : V) : Option Eff :=
 match x with
 | .lst _ rows _ => if rows.length = 0 then some { v := .tup [] } else none
 | .ref a size' off len cap =>
  match get a with
  | some (.arr size'' rows) =>
   if size' = size ∧ size'' = size ∧ off + len ≤ rows.length then some { v := .tup [], need := [a], upd := [(a, some (.arr size (over rows off (List.replicate len zero))))] } else none
  | _ => none
 | _ => none
def loadV (get : Nat → Option Blk) (n : Nat) (leaf : Bool) : V → Option Eff
 | .ptr a size i o =>
  match get a with
  | some (.arr size' rows) =>
   if size = size' then (rows[i]?).bind fun row => (takeCells row o n leaf).bind fun v => some { v, need := [a] } else none
  | _ => none
 | .iptr size rows i o => (rows[i]?).bind fun row => (takeCells row o n leaf).bind fun v => some { v }
 | _ => none
def storeV (get : Nat → Option Blk) (n : Nat) (p x : V) : Option Eff :=
 match p with
 | .ptr a size i o =>
  match get a with
  | some (.arr size' rows) =>
   if size = size' ∧ x.cells.length = n ∧ x.isVal = true then
    (rows[i]?).bind fun row =>
    if o + n ≤ row.length then some { v := .tup [], need := [a], upd := [(a, some (.arr size (rows.set i (row.take o ++ x.cells ++ row.drop (o + n)))))] } else none
   else none
  | _ => none
 | _ => none
def sliceV (size : Nat) (x : V) (lo hi mx : Option (Option Nat)) : Option V :=
 match x with
 | .ref a size' off len cap =>
  match lo, hi, mx with
  | some l, some h, some m =>
   let h' := h.getD len
   let l' := l.getD 0
   match m with
   | none =>
    if size' = size ∧ l' ≤ h' ∧ h' ≤ cap.getD len then some (.ref a size (off + l') (h' - l') (cap.map (· - l'))) else none
   | some m' =>
    if size' = size ∧ l' ≤ h' ∧ h' ≤ m' ∧ m' ≤ cap.getD len then some (.ref a size (off + l') (h' - l') (some (m' - l'))) else none
  | _, _, _ => none
 | .lst size' rows cap =>
  match lo, hi, mx with
  | some l, some h, some m =>
   let h' := h.getD rows.length
   let l' := l.getD 0
   match m with
   | none => if ((size' = size ∨ rows.length = 0) ∧ size ≠ 0 ∧ size ≠ 1000003) ∧ l' ≤ h' ∧ h' ≤ rows.length then some (.lst (if rows.length = 0 then size' else size) ((rows.drop l').take (h' - l')) (cap.map (· - l'))) else none
   | some m' => if ((size' = size ∨ rows.length = 0) ∧ size ≠ 0 ∧ size ≠ 1000003) ∧ l' ≤ h' ∧ h' ≤ m' ∧ m' ≤ rows.length then some (.lst (if rows.length = 0 then size' else size) ((rows.drop l').take (h' - l')) (some (m' - l'))) else none
  | _, _, _ => none
 | _ => none
def sliceaV (get : Nat → Option Blk) (size n : Nat) (x : V) (lo hi mx : Option (Option Nat)) : Option Eff :=
 match x with
 | .ptr a s i o =>
  match get a with
  | some (.arr s2 rows) =>
   match lo, hi, mx with
   | some l, some h, some m =>
    let m' := m.getD n
    let h' := h.getD n
    let l' := l.getD 0
    if (s2 = size ∧ 0 < size ∧ (i * s + o) % size = 0 ∧ (i * s + o) / size + n ≤ rows.length) ∧ l' ≤ h' ∧ h' ≤ m' ∧ m' ≤ n then some { v := .ref a size ((i * s + o) / size + l') (h' - l') (some (m' - l')), need := [a] } else none
   | _, _, _ => none
  | _ => none
 | _ => none
def optNat? (ρ : AOpd → Option V) : Option AOpd → Option (Option Nat)
 | none => some none
 | some x => ((ρ x).bind V.nat?).map some
def isnilV : Nat → V → Option Bool
 | 0, .lst s rows _ => if rows.length = 0 then (if s = 0 then some true else if s = 1000003 then some false else none) else some false
 | 0, .ref _ _ _ _ _ => some false
 | 1, .nilp => some true
 | 1, .ptr _ _ _ _ => some false
 | 1, .iptr _ _ _ _ => some false
 | 2, .nilm => some true
 | 2, .mapp _ => some false
 | 3, .nilf => some true
 | 3, .fn _ _ _ => some false
 | 3, .yld _ => some false
 | 4, .nili => some true
 | 4, .iface _ _ => some false
 | _, _ => none
def nilFits : TypeDesc → Operand → Option Nat
 | .slice _, .const (.slice none 0 0) => some 0
 | .pointer _, .const (.pointer none) => some 1
 | .map _ _, .const (.map none) => some 2
 | .func _ _ _, .const .nilFunc => some 3
 | .interface _, .const .nilIface => some 4
 | _, _ => none
def sameK0 : Nat → V → V → Option Bool
 | 0, .int j a, .int k b => if j = k then some (a == b) else none
 | 1, .str a, .str b => some (a == b)
 | 2, .bool a, .bool b => some (a == b)
 | _, _, _ => none
def kcs : Nat → Nat → List Nat
 | 0, _ => []
 | f + 1, n => if n = 0 then [] else (n % 4 - 1) :: kcs f (n / 4)
def kcOf : List Nat → Nat
 | [] => 0
 | c :: r => c + 1 + 4 * kcOf r
def sameCs : List Nat → List V → List V → Option Bool
 | [], [], [] => some true
 | c :: cs, a :: r, b :: s => (sameK0 c a b).bind fun x => (sameCs cs r s).bind fun y => some (x && y)
 | _, _, _ => none
def sameK (c : Nat) (x y : V) : Option Bool :=
 if c < 3 then sameK0 c x y else match x, y with | .agg xs, .agg ys => sameCs (kcs 12 (c - 3)) xs ys | _, _ => none
def eqLoop (f : Nat → Option Bool) : Nat → Nat → Option Bool
 | 0, _ => some true
 | n + 1, i => match f i with | some true => eqLoop f n (i + 1) | r => r
def eqS : Shp → V → V → Option Bool
 | .leaf c, x, y => sameK0 c x y
 | .arr n k lf e, .agg cs, .agg ds => eqLoop (fun i => (takeCells cs (i * k) k lf).bind fun a => (takeCells ds (i * k) k lf).bind fun b => eqS e a b) n 0
 | .nil, .agg _, .agg _ => some true
 | .fld off k lf s rest, .agg cs, .agg ds => match (takeCells cs off k lf).bind fun a => (takeCells ds off k lf).bind fun b => eqS s a b with | some true => eqS rest (.agg cs) (.agg ds) | r => r
 | _, _, _ => none
def findK (kc : Nat) (k : V) : List (V × V) → Nat → Option (Option Nat)
 | [], _ => some none
 | e :: es, i => match sameK kc k e.1 with | some true => some (some i) | some false => findK kc k es (i + 1) | none => none
def mapOf (get : Nat → Option Blk) : V → Option (List (V × V) × List Nat)
 | .nilm => some ([], [])
 | .mapp a => match get a with | some (.map es _ _) => some (es, [a]) | _ => none
 | _ => none
def keyV0 : Nat → V → Bool
 | 0, .int _ _ => true
 | 1, .str _ => true
 | 2, .bool _ => true
 | _, _ => false
def keyCs : List Nat → List V → Bool
 | [], [] => true
 | c :: cs, v :: vs => keyV0 c v && keyCs cs vs
 | _, _ => false
def keyV (c : Nat) (v : V) : Bool := if c < 3 then keyV0 c v else match v with | .agg vs => keyCs (kcs 12 (c - 3)) vs | _ => false
def pickV (es : List (V × V)) (z : V) : Option Nat → V
 | some i => ((es[i]?).map (·.2)).getD z
 | none => z
def mgetV (get : Nat → Option Blk) (kc : Nat) (zero : V) (ok : Bool) (m k : V) : Option Eff :=
 if keyV kc k then
  (mapOf get m).bind fun (es, nd) => (findK kc k es 0).bind fun r =>
   let v := pickV es zero r
   some { v := if ok then .tup [v, .bool r.isSome] else v, need := nd }
 else none
def msetV (get : Nat → Option Blk) (kc : Nat) (m k x : V) : Option Eff :=
 match m with
 | .mapp a =>
  match get a with
  | some (.map es bs clk) =>
   if keyV kc k && x.isVal then
    (findK kc k es 0).bind fun r => some { v := .tup [], need := [a], upd := [(a, some (match r with | some i => .map (es.set i (k, x)) bs clk | none => .map (es ++ [(k, x)]) (bs ++ [clk]) (clk + 1)))] }
   else none
  | _ => none
 | _ => none
def mdelV (get : Nat → Option Blk) (kc : Nat) (m k : V) : Option Eff :=
 match m with
 | .mapp a =>
  match get a with
  | some (.map es bs clk) =>
   if keyV kc k then
    (findK kc k es 0).bind fun r => some { v := .tup [], need := [a], upd := [(a, some (match r with | some i => .map (es.eraseIdx i) (bs.eraseIdx i) clk | none => .map es bs clk))] }
   else none
  | _ => none
 | _ => none
def findN (b : Nat) : List Nat → Nat → Option Nat
 | [], _ => none
 | x :: r, i => bif Nat.beq x b then some i else findN b r (i + 1)
def memN (b : Nat) : List Nat → Bool
 | [] => false
 | x :: r => bif Nat.beq x b then true else memN b r
def mapentV (get : Nat → Option Blk) (kc : Nat) (zero : V) (m k : V) : Option Eff :=
 match m with
 | .mapp a =>
  match get a with
  | some (.map es bs clk) =>
   if keyV kc k && zero.isVal then
    (findK kc k es 0).bind fun r =>
     match r with
     | some i => some { v := .tup [pickV es zero r, .int .i64 ((bs[i]?).getD 0 : Nat)], need := [a], upd := [(a, some (.map (es.set i (k, pickV es zero r)) bs clk))] }
     | none => some { v := .tup [zero, .int .i64 (clk : Nat)], need := [a], upd := [(a, some (.map (es ++ [(k, zero)]) (bs ++ [clk]) (clk + 1)))] }
   else none
  | _ => none
 | _ => none
def entstoreV (get : Nat → Option Blk) (m st x : V) : Option Eff :=
 match m, st with
 | .mapp a, .int .i64 b =>
  match get a with
  | some (.map es bs clk) =>
   if 0 ≤ b ∧ x.isVal then
    (findN b.toNat bs 0).bind fun i => (es[i]?).bind fun p => some { v := .tup [], need := [a], upd := [(a, some (.map (es.set i (p.1, x)) bs clk))] }
   else none
  | _ => none
 | _, _ => none
def mrangeV (n : Nat) (get : Nat → Option Blk) : V → Option Eff
 | .nilm => some { v := .ptr n 0 0 0, new := [.iter none 0 [] 0] }
 | .mapp a => match get a with | some (.map _ _ clk) => some { v := .ptr n 0 0 0, need := [a], new := [.iter (some a) clk [] clk] } | _ => none
 | _ => none
def srangeV (n : Nat) : V → Option Eff
 | .str s => some { v := .ptr n 0 0 0, new := [.siter s 0] }
 | _ => none
def candsN (seen : List Nat) : List Nat → List (V × V) → List (Nat × (V × V))
 | b :: bs, p :: es => bif memN b seen then candsN seen bs es else (b, p) :: candsN seen bs es
 | _, _ => []
def allLt (b : Nat) : List Nat → Bool
 | [] => true
 | x :: r => Nat.blt x b && allLt b r
def nextE (get : Nat → Option Blk) : V → Option (List Eff)
 | .ptr r 0 0 0 =>
  match get r with
  | some (.iter none _ _ _) => some [{ v := .tup [.bool false], need := [r] }]
  | some (.iter (some m) since seen last) =>
   match get m with
   | some (.map es bs clk) =>
    if allLt since bs = true ∧ Nat.ble since last = true then
     match candsN seen bs es with
     | [] => some [{ v := .tup [.bool false], need := [r, m] }]
     | c :: cs => some ((c :: cs).map fun c => { v := .tup [.bool true, c.2.1, c.2.2], need := [r, m], upd := [(r, some (.iter (some m) since (seen ++ [c.1]) clk))] })
    else none
   | _ => none
  | _ => none
 | _ => none
def mnextV (get : Nat → Option Blk) (x : V) : Option Eff :=
 match nextE get x with
 | some [e] => some e
 | _ => none
def mentryV (get : Nat → Option Blk) : V → Option Eff
 | .ptr r 0 0 0 =>
  match get r with
  | some (.iter (some m) _ seen last) =>
   match get m with
   | some (.map es bs clk) =>
    if clk = last then
     (seen.getLast?).bind fun b => (findN b bs 0).bind fun i => (es[i]?).bind fun p => some { v := .tup [p.1, p.2], need := [r, m] }
    else none
   | _ => none
  | _ => none
 | _ => none
def snextV (get : Nat → Option Blk) : V → Option Eff
 | .ptr r 0 0 0 =>
  match get r with
  | some (.siter s pos) =>
   if pos < s.length then
    let d := Utf8.decode ⟨s.toArray⟩ pos
    some { v := .tup [.bool true, .int .i64 (pos : Nat), .int .i32 (d.1 : Nat)], need := [r], upd := [(r, some (.siter s (pos + d.2)))] }
   else some { v := .tup [.bool false], need := [r] }
  | _ => none
 | _ => none
def unRow (r : List V) (acc : Option (List UInt8)) : Option (List UInt8) := acc.bind fun s => match r with | [.int .u8 b] => some (UInt8.ofNat b.toNat :: s) | _ => none
def xfnV : Nat → V → V → Option V
 | 0, .str s, .int .u8 c => some (.int .i64 ((Lib.countByte s c.toNat.toUInt8 : Nat) : Int))
 | 1, .str s, .int .u8 c => some (.int .i64 (Lib.indexByte s c.toNat.toUInt8))
 | _, _, _ => none
def AOp.exec0 (n : Nat) (get : Nat → Option Blk) (ρ : AOpd → Option V) : AOp → Option Eff
 | .mov x => (ρ x).bind fun v => some { v }
 | .pick c a b => (ρ c).bind fun v => match v with | .bool true => (ρ a).bind fun v => some { v } | .bool false => (ρ b).bind fun v => some { v } | _ => none
 | .box x => (ρ x).bind fun v => if v.isVal then some { v := .ptr n v.cells.length 0 0, new := [.arr v.cells.length [v.cells]] } else none
 | .alloc zero => some { v := .ptr n zero.length 0 0, new := [.arr zero.length [zero]] }
 | .build zero parts => (evalParts ρ parts).bind fun ps => (fillCells zero ps).bind fun cs => some { v := .agg cs }
 | .bslice size zero ln parts => (evalParts1 ρ parts).bind fun ps => (fillRows size (List.replicate ln zero) ps).bind fun rows =>
     some { v := .ref n size 0 ln (some ln), new := [.arr size rows] }
 | .load k leaf p => (ρ p).bind (loadV get k leaf)
 | .store k p x => (ρ p).bind fun p => (ρ x).bind fun x => storeV get k p x
 | .nilchk x => (ρ x).bind fun v => match v with | .ptr .. | .iptr .. | .fn .. | .iface .. => some { v } | _ => none
 | .bin op x y => (ρ x).bind fun x => (ρ y).bind fun y => (binV op x y).bind fun v => some { v }
 | .beq neg x y => (ρ x).bind fun x => (ρ y).bind fun y => match x, y with | .bool a, .bool b => some { v := .bool (if neg then !(a == b) else a == b) } | _, _ => none
 | .acmp s neg x y => (ρ x).bind fun x => (ρ y).bind fun y => (eqS s x y).bind fun b => some { v := .bool (if neg then !b else b) }
 | .isnil c neg x => (ρ x).bind fun x => (isnilV c x).bind fun b => some { v := .bool (if neg then !b else b) }
 | .un op x => (ρ x).bind fun x => (unV op x).bind fun v => some { v }
 | .conv k x => (ρ x).bind fun x => match x with | .int _ n => some { v := .int k (k.wrap n) } | _ => none
 | .same x => (ρ x).bind fun x => match x with | .str s => some { v := .str s } | _ => none
 | .bytes x => (ρ x).bind fun x => match x with | .str s => some { v := .ref n 1 0 s.length none, new := [.arr 1 (s.map fun b => [.int .u8 b.toNat])] } | _ => none
 | .string x => (ρ x).bind fun x => (match x with | .str _ => none | _ => some ()).bind fun _ => (rowsOf 1 get x).bind fun (rows, nd) => (rows.foldr unRow (some [])).bind fun s => some { v := .str s, need := nd }
 | .mkiface t x => (ρ x).bind fun x => some { v := .iface t x }
 | .mkfn f first caps => (evals ρ first).bind fun fs => (evals ρ caps).bind fun cs => some { v := .fn f fs cs }
 | .mkslice size bts zero ln cp => ((ρ ln).bind V.nat?).bind fun l => ((ρ cp).bind V.nat?).bind fun c =>
     if l ≤ c ∧ c * bts ≤ 140737488355328 ∧ c < 9223372036854775808 ∧ zero.length = size then some { v := .ref n size 0 l (some c), new := [.arr size (List.replicate c zero)] } else none
 | .slice size x lo hi mx => (ρ x).bind fun x => (sliceV size x (optNat? ρ lo) (optNat? ρ hi) (optNat? ρ mx)).bind fun v => some { v }
 | .slicea size m x lo hi mx => (ρ x).bind fun x => sliceaV get size m x (optNat? ρ lo) (optNat? ρ hi) (optNat? ρ mx)
 | .substr x lo hi => (ρ x).bind fun x => match x with
     | .str s => (optNat ρ 0 lo).bind fun l => (optNat ρ s.length hi).bind fun h => if l ≤ h ∧ h ≤ s.length then some { v := .str ((s.drop l).take (h - l)) } else none
     | _ => none
 | .fa x off => (ρ x).bind fun x => match x with
     | .ptr a size i o => some { v := .ptr a size i (o + off) }
     | .iptr size rows i o => some { v := .iptr size rows i (o + off) }
     | _ => none
 | .fld x off k leaf => (ρ x).bind fun x => match x with
     | .agg cs => (takeCells cs off k leaf).bind fun v => some { v }
     | _ => none
 | .ia size x i => (ρ x).bind fun x => ((ρ i).bind V.nat?).bind fun i => match x with
     | .ref a size' off ln _ => if size' = size ∧ i < ln then some { v := .ptr a size (off + i) 0 } else none
     | .lst size' rows _ => if size' = size ∧ i < rows.length then some { v := .iptr size rows i 0 } else none
     | _ => none
 | .iaa size ln x i => (ρ x).bind fun x => ((ρ i).bind V.nat?).bind fun i =>
     if i < ln then
      match x with
      | .ptr a size' j o => some { v := .ptr a size' j (o + i * size) }
      | .iptr size' rows j o => some { v := .iptr size' rows j (o + i * size) }
      | _ => none
     else none
 | .chr x i => (ρ x).bind fun x => ((ρ i).bind V.nat?).bind fun i => match x with
     | .str s => (s[i]?).bind fun b => some { v := .int .u8 b.toNat }
     | _ => none
 | .idx size ln leaf x i => (ρ x).bind fun x => ((ρ i).bind V.nat?).bind fun i => match x with
     | .agg cs => if i < ln then (takeCells cs (i * size) size leaf).bind fun v => some { v } else none
     | _ => none
 | .ext x i => (ρ x).bind fun x => match x with
     | .tup vs => (vs[i]?).bind fun v => some { v }
     | _ => none
 | .len x => (ρ x).bind fun x => match x with
     | .ref _ _ _ ln _ => some { v := .int .i64 ln }
     | .lst _ rows _ => some { v := .int .i64 rows.length }
     | _ => none
 | .slen x => (ρ x).bind fun x => match x with
     | .str s => some { v := .int .i64 s.length }
     | _ => none
 | .cap x => (ρ x).bind fun x => match x with
     | .ref _ _ _ _ (some c) => some { v := .int .i64 c }
     | .lst _ _ (some c) => some { v := .int .i64 c }
     | _ => none
 | .append size bts x y => (ρ x).bind fun x => (ρ y).bind fun y => appendV n size bts get x y
 | .clr size zero x => (ρ x).bind fun x => clrV size zero get x
 | .copy size x y => (ρ x).bind fun x => (ρ y).bind fun y => copyV size get x y
 | .min xs => (evals ρ xs).bind fun vs => match vs with | v :: r => (foldInts (fun x y => if y < x then y else x) v r).bind fun v => some { v } | [] => none
 | .max xs => (evals ρ xs).bind fun vs => match vs with | v :: r => (foldInts (fun x y => if y > x then y else x) v r).bind fun v => some { v } | [] => none
 | .mkmap r => (match r with | none => some () | some x => (ρ x).bind fun v => match v with | .int _ _ => some () | _ => none).bind fun _ => some { v := .mapp n, new := [.map [] [] 0] }
 | .mget kc zero ok m k => (ρ m).bind fun m => (ρ k).bind fun k => mgetV get kc zero ok m k
 | .mset kc m k x => (ρ m).bind fun m => (ρ k).bind fun k => (ρ x).bind fun x => msetV get kc m k x
 | .mdel kc m k => (ρ m).bind fun m => (ρ k).bind fun k => mdelV get kc m k
 | .mlen m => (ρ m).bind fun m => (mapOf get m).bind fun (es, nd) => some { v := .int .i64 es.length, need := nd }
 | .mrange x => (ρ x).bind fun x => mrangeV n get x
 | .srange x => (ρ x).bind fun x => srangeV n x
 | .mnext x => (ρ x).bind fun x => mnextV get x
 | .snext x => (ρ x).bind fun x => snextV get x
 | .mentry x => (ρ x).bind fun x => mentryV get x
 | .mapent kc zero m k => (ρ m).bind fun m => (ρ k).bind fun k => mapentV get kc zero m k
 | .entstore m st x => (ρ m).bind fun m => (ρ st).bind fun st => (ρ x).bind fun x => entstoreV get m st x
 | .xfn k x y => (ρ x).bind fun x => (ρ y).bind fun y => (xfnV k x y).bind fun v => some { v }
 | .call _ _ => none
 | .no => none
def chunkN (size : Nat) : Nat → List V → List (List V)
 | 0, _ => []
 | n + 1, l => l.take size :: chunkN size n (l.drop size)
def Blk.shape (size : Nat) : Blk → Blk
 | .arr s rows => if s = size then .arr s rows else if 0 < size ∧ (rows.length * s) % size = 0 then .arr size (chunkN size (rows.length * s / size) rows.flatten) else .arr s rows
 | b => b
def shG (size : Nat) (get : Nat → Option Blk) (a : Nat) : Option Blk := (get a).map (Blk.shape size)
def V.psz : V → Nat
 | .ptr _ s _ _ => s
 | _ => 0
def AOp.sz (ρ : AOpd → Option V) : AOp → Nat
 | .load _ _ p => ((ρ p).map V.psz).getD 0
 | .store _ p _ => ((ρ p).map V.psz).getD 0
 | .string _ => 1
 | .append size _ _ _ => size
 | .copy size _ _ => size
 | .clr size _ _ => size
 | .slicea size _ _ _ _ _ => size
 | _ => 0
def AOp.exec (n : Nat) (get : Nat → Option Blk) (ρ : AOpd → Option V) (o : AOp) : Option Eff := o.exec0 n (shG (o.sz ρ) get) ρ
structure Tr where
 P : Program
 fns : FuncId → Option Nat
 tys : TypeId → Option Nat
 gls : Nat → Option Nat
 xk : FuncId → Option Nat
mutual
def V.of : Value → Option V
 | .bool b => some (.bool b)
 | .int k n => some (.int k n)
 | .string s => some (.str s.data.toList)
 | .pointer none => some .nilp
 | .slice none 0 0 => some (.lst 0 [] (some 0))
 | .nilFunc => some .nilf
 | .map none => some .nilm
 | .nilIface => some .nili
 | .agg cs => (V.ofs cs.toList).map .agg
 | _ => none
def V.ofs : List Value → Option (List V)
 | [] => some []
 | v :: r => (V.of v).bind fun x => (V.ofs r).bind fun xs => if x.one then some (x :: xs) else none
end
namespace Tr
variable (T : Tr)
def opd : Operand → Option AOpd
 | .tmp t => some (.t t)
 | .const v => (V.of v).map .c
 | .func f => (T.fns f).map .f
 | .global g => (T.gls g).map .g
def opds : List Operand → Option (List AOpd)
 | [] => some []
 | x :: r => (T.opd x).bind fun a => (opds r).bind fun l => some (a :: l)
def isAgg (t : TypeId) : Option Bool :=
 match T.P.underlying t with
 | some (.struct _) | some (.array _ _) => some true
 | some _ => some false
 | none => none
def size (t : TypeId) : Option Nat := (T.P.info? t).map (·.size)
def bytes (t : TypeId) : Option Nat := (T.P.info? t).map (·.bytes)
def zero (t : TypeId) : Option (List V) := ((T.P.info? t).bind (·.zero)).bind fun z => V.ofs z.cells.toList
def zeroW (t : TypeId) : Option V := ((T.P.info? t).bind (·.zero)).bind V.of
def odd : Option Operand → Option (Option AOpd)
 | none => some none
 | some x => (T.opd x).map some
def parts (place : Nat → Option (Nat × Nat)) : List (Nat × Operand) → Option (List (Nat × Nat × AOpd))
 | [] => some []
 | (i, x) :: r => (place i).bind fun (o, s) => (T.opd x).bind fun a => (parts place r).bind fun l => some ((o, s, a) :: l)
def parts1 : List (Nat × Operand) → Option (List (Nat × AOpd))
 | [] => some []
 | (i, x) :: r => (T.opd x).bind fun a => (parts1 r).bind fun l => some ((i, a) :: l)
def fieldOf (s : TypeId) (f : Nat) : Option Field :=
 match T.P.underlying s with
 | some (.struct fs) => fs[f]?
 | _ => none
def isU8 (t : TypeId) : Bool := match T.P.underlying t with | some (.int .u8) => true | _ => false
def keyC0 (t : TypeId) : Option Nat := match T.P.underlying t with | some (.int _) => some 0 | some .string => some 1 | some .bool => some 2 | _ => none
def flat : Nat → List Field → Option (List Nat)
 | _, [] => some []
 | i, f :: r => if f.name = "_" ∨ f.offset ≠ i ∨ T.size f.type ≠ some 1 ∨ T.isAgg f.type ≠ some false then none else (T.keyC0 f.type).bind fun c => (flat (i + 1) r).map (c :: ·)
def keyC (t : TypeId) : Option Nat :=
 match T.P.underlying t with
 | some (.struct fs) => if T.P.stoodInHeld t = false then (T.flat 0 fs.toList).bind fun cs => if kcs 12 (kcOf cs) = cs then some (3 + kcOf cs) else none else none
 | _ => T.keyC0 t
def shapeFs (sh : TypeId → Option Shp) : List Field → Option Shp
 | [] => some .nil
 | f :: r => if f.name = "_" then none else (T.size f.type).bind fun k => (T.isAgg f.type).bind fun g => (sh f.type).bind fun s => (shapeFs sh r).map (.fld f.offset k (!g) s)
def shape : Nat → TypeId → Option Shp
 | 0, _ => none
 | d + 1, t =>
  match T.P.underlying t with
  | some (.array n e) => (T.size e).bind fun k => (T.isAgg e).bind fun g => (shape d e).map (.arr n k (!g))
  | some (.struct fs) => if T.P.stoodInHeld t = false then T.shapeFs (shape d) fs.toList else none
  | _ => (T.keyC0 t).map .leaf
def builtin (b : Builtin) (ts : List TypeId) (args : List Operand) : Option AOp :=
 match b, ts, args with
 | .len, [t], [x] =>
  match T.P.underlying t with
  | some .string => (T.opd x).map .slen
  | some (.slice _) => (T.opd x).map .len
  | some (.map _ _) => (T.opd x).map .mlen
  | _ => none
 | .delete, [t, _], [x, y] =>
  match T.P.underlying t with
  | some (.map k _) => (T.keyC k).bind fun c => (T.opd x).bind fun a => (T.opd y).map (.mdel c a)
  | _ => none
 | .cap, [t], [x] =>
  match T.P.underlying t with
  | some (.slice _) => (T.opd x).map .cap
  | _ => none
 | .append, [t, u], [x, y] =>
  match T.P.underlying t, T.P.underlying u with
  | some (.slice e), some (.slice _) | some (.slice e), some .string =>
   (T.size e).bind fun s => (T.bytes e).bind fun k => (T.zero e).bind fun z => (T.opd x).bind fun a => (T.opd y).bind fun b => if s = 0 ∨ k = 0 ∨ z.length ≠ s then none else some (.append s k a b)
  | _, _ => none
 | .copy, [t, u], [x, y] =>
  match T.P.underlying t, T.P.underlying u with
  | some (.slice e), some (.slice _) | some (.slice e), some .string =>
   (T.size e).bind fun s => (T.opd x).bind fun a => (T.opd y).bind fun b => if s = 0 then none else some (.copy s a b)
  | _, _ => none
 | .clear, [t], [x] =>
  match T.P.underlying t with
  | some (.slice e) => (T.size e).bind fun s => (T.zero e).bind fun z => (T.opd x).bind fun a => if z.length = s then some (.clr s z a) else none
  | _ => none
 | .min, _, xs => (T.opds xs).map .min
 | .max, _, xs => (T.opds xs).map .max
 | _, _, _ => none
def methOf (t : TypeId) (name : String) : Option Nat :=
 (T.P.info? t).bind fun i => (i.methods.find? (·.name == name)).bind fun m =>
  match m.path.toList, m.func, T.P.underlying t with
  | [], some (f, true), some (.pointer _) => T.fns f
  | [], some (_, false), some (.pointer _) => none
  | [], some (f, false), some _ => T.fns f
  | _, _, _ => none
def meths (name : String) : List (Nat × Nat) := (List.range T.P.types.size).filterMap fun t => (T.tys t).bind fun k => (T.methOf t name).map fun f => (k, f)
def op : Op → Option AOp
 | .move x | .assign x => (T.opd x).map .mov
 | .pick c a b => (T.opd c).bind fun c => (T.opd a).bind fun a => (T.opd b).bind fun b => some (.pick c a b)
 | .alloc e => (T.zero e).map .alloc
 | .box _ x => (T.opd x).map .box
 | .build t ps =>
  match T.P.underlying t with
  | some (.struct fs) => (fs.toList.mapM fun f => (T.P.info? f.type).map fun i => (f.offset, i.size)).bind fun places => (T.zero t).bind fun z => (T.parts (places[·]?) ps.toList).map (.build z)
  | some (.array _ e) => (T.zero t).bind fun z => (T.size e).bind fun s => (T.parts (fun i => some (i * s, s)) ps.toList).map (.build z)
  | _ => none
 | .buildSlice t n ps =>
  match T.P.underlying t with
  | some (.slice e) => (T.size e).bind fun s => (T.zero e).bind fun z => (T.parts1 ps.toList).bind fun l => if n * s ≤ 16777216 ∧ z.length = s then some (.bslice s z n l) else none
  | _ => none
 | .load t a => (T.size t).bind fun n => (T.isAgg t).bind fun g => (T.opd a).map (.load n (!g))
 | .store t a x => (T.size t).bind fun n => (T.opd a).bind fun a => (T.opd x).map (.store n a)
 | .nilCheck x => (T.opd x).map .nilchk
 | .binOp o t x y _ => (T.opd x).bind fun a => (T.opd y).bind fun b =>
  match o with
  | .eql | .neq =>
   match T.P.underlying t with
   | some .bool => some (.beq (match o with | .neq => true | _ => false) a b)
   | some (.int _) | some .string => some (.bin o a b)
   | some d =>
    match nilFits d y with
    | some c => some (.isnil c (match o with | .neq => true | _ => false) a)
    | none => if T.P.eqGuardType T.P.depth t = false ∧ T.isAgg t = some true then (T.shape 20 t).map fun s => .acmp s (match o with | .neq => true | _ => false) a b else none
   | none => none
  | _ => some (.bin o a b)
 | .unOp o _ x => (T.opd x).map (.un o)
 | .convert s d x =>
  match T.P.underlying s, T.P.underlying d with
  | some (.int _), some (.int k) => (T.opd x).map (.conv k)
  | some .string, some .string => (T.opd x).map .same
  | some .string, some (.slice e) => if T.isU8 e then (T.opd x).map .bytes else none
  | some (.slice e), some .string => if T.isU8 e then (T.opd x).map .string else none
  | _, _ => none
 | .makeInterface t x =>
  match T.P.underlying t with
  | some (.interface _) | none => none
  | some _ => (T.tys t).bind fun k => (T.opd x).map (.mkiface k)
 | .makeFunc (.func f) first caps => (T.fns f).bind fun k => (T.opds first.toList).bind fun a => (T.opds caps.toList).map (.mkfn k a)
 | .makeSlice t l c =>
  match T.P.underlying t with
  | some (.slice e) => (T.size e).bind fun s => (T.bytes e).bind fun k => (T.zero e).bind fun z => (T.opd l).bind fun l => (T.opd c).map (.mkslice s k z l)
  | _ => none
 | .slice t x lo hi mx =>
  match T.P.underlying t with
  | some (.slice e) => (T.size e).bind fun s => (T.opd x).bind fun x => (T.odd lo).bind fun lo => (T.odd hi).bind fun hi => (T.odd mx).bind fun mx => if mx.isSome && hi.isNone then none else some (.slice s x lo hi mx)
  | some (.array m e) => (T.size e).bind fun s => (T.opd x).bind fun x => (T.odd lo).bind fun lo => (T.odd hi).bind fun hi => (T.odd mx).bind fun mx => if mx.isSome && hi.isNone then none else some (.slicea s m x lo hi mx)
  | some .string => if mx.isSome then none else (T.opd x).bind fun x => (T.odd lo).bind fun lo => (T.odd hi).map (.substr x lo)
  | _ => none
 | .fieldAddr s x f => (T.fieldOf s f).bind fun f => (T.size f.type).bind fun n => if n = 0 then none else (T.opd x).map fun x => .fa x f.offset
 | .field s x f => (T.fieldOf s f).bind fun f => (T.size f.type).bind fun n => (T.isAgg f.type).bind fun g => (T.opd x).map fun x => .fld x f.offset n (!g)
 | .indexAddr t x i =>
  match T.P.underlying t with
  | some (.slice e) => (T.size e).bind fun s => (T.opd x).bind fun x => (T.opd i).map (.ia s x)
  | some (.array n e) => (T.size e).bind fun s => (T.opd x).bind fun x => (T.opd i).map (.iaa s n x)
  | _ => none
 | .index t x i =>
  match T.P.underlying t with
  | some .string => (T.opd x).bind fun x => (T.opd i).map (.chr x)
  | some (.array n e) => (T.size e).bind fun s => (T.isAgg e).bind fun g => (T.opd x).bind fun x => (T.opd i).map (.idx s n (!g) x)
  | _ => none
 | .extract t i => (T.opd t).map (.ext · i)
 | .makeMap t r => match T.P.underlying t with | some (.map _ _) => (T.odd r).map .mkmap | _ => none
 | .lookup t x i ok =>
  match T.P.underlying t with
  | some (.map k e) => (T.keyC k).bind fun c => (T.zeroW e).bind fun z => (T.opd x).bind fun a => (T.opd i).map (.mget c z ok a)
  | _ => none
 | .mapUpdate t m k x | .insert t m k x =>
  match T.P.underlying t with
  | some (.map kt _) => (T.keyC kt).bind fun c => (T.opd m).bind fun a => (T.opd k).bind fun b => (T.opd x).map (.mset c a b)
  | _ => none
 | .range t x =>
  match T.P.underlying t with
  | some .string => (T.opd x).map .srange
  | some (.map _ _) => (T.opd x).map .mrange
  | _ => none
 | .next x true => (T.opd x).map .snext
 | .next x false => (T.opd x).map .mnext
 | .entry x => (T.opd x).map .mentry
 | .mapEntry t m k =>
  match T.P.underlying t with
  | some (.map kt e) => (T.keyC kt).bind fun c => (T.zeroW e).bind fun z => (T.opd m).bind fun a => (T.opd k).map (.mapent c z a)
  | _ => none
 | .entryStore _ m st x => (T.opd m).bind fun a => (T.opd st).bind fun b => (T.opd x).map (.entstore a b)
 | .call c =>
  match c.callee with
  | .builtin b => T.builtin b c.argTypes.toList c.args.toList
  | .value (.func f) => (T.fns f).bind fun k => (T.opds c.args.toList).map (.call (.fn k))
  | .value f => (T.opd f).bind fun f => (T.opds c.args.toList).map (.call (.dyn f))
  | .invoke r name => (T.opd r).bind fun x => (T.opds c.args.toList).map (.call (.meth x (T.meths name)))
 | _ => none
def xkind (fn : Func) : Option Nat := if fn.body.isNone && fn.origin == "" then (if fn.name == "internal/bytealg.CountString" then some 0 else if fn.name == "internal/bytealg.IndexByteString" then some 1 else none) else none
def xop : Op → Option AOp
 | .call c =>
  match c.callee, c.args.toList with
  | .value (.func f), [x, y] => (T.xk f).bind fun k => (T.opd x).bind fun a => (T.opd y).map (.xfn k a)
  | _, _ => none
 | _ => none
def deps (o : Oper) : List Nat := (o.after.toList.filter fun e => Region.binds .any e).map (·.on)
def isFnCall : Op → Bool
 | .call c => (match c.callee with | .value _ => true | .invoke _ _ => true | _ => false)
 | _ => false
def oper (ntmps : Nat) (ops : Array Oper) (draw : Bool) (i : Nat) (o : Oper) : Option AI :=
 (some (match T.op o.op with | some a => a | none => (T.xop o.op).getD .no)).bind fun a =>
 (match o.guard with
  | none => some none
  | some (j, want) => ((ops[j]?).bind (·.dst)).map fun t => some (t, want)).bind fun g =>
 if (match o.dst with | some d => Nat.blt d ntmps | none => true) && (deps o).all (Nat.blt · i) && (!a.isCall || isFnCall o.op) then some { dst := o.dst, op := a, guard := g, anc := if draw then deps o else [] } else none
def opers (ntmps : Nat) (ops : Array Oper) (draw : Bool) : Nat → List Oper → Option (List AI)
 | _, [] => some []
 | i, o :: r => (T.oper ntmps ops draw i o).bind fun a => (opers ntmps ops draw (i + 1) r).bind fun l => some (a :: l)
def code (ntmps : Nat) (kills : List (List Nat)) : Code → Option AC
 | .skip => some .skip
 | .region id ops draw => (T.opers ntmps ops draw 0 ops.toList).map fun l => .ops draw l (kills.getD id [])
 | .seq a b => (code ntmps kills a).bind fun a => (code ntmps kills b).map (.seq a)
 | .cond c a b => (T.opd c).bind fun c => (code ntmps kills a).bind fun a => (code ntmps kills b).map (.cond c a)
 | .block id a => (code ntmps kills a).map (.block id)
 | .loop a => (code ntmps kills a).map .loop
 | .rangeFunc g ps a b => (T.opd g).bind fun g => (code ntmps kills a).bind fun a => (code ntmps kills b).map (.range g ps.toList a)
 | .exit id => some (.exit id)
 | .ret => some .ret
 | .scope c => code ntmps kills c
 | .label _ => some .skip
 | _ => some .no
def res : ResultVar → Option ARes
 | .tmp t => some (.t t)
 | .cell t ty => (T.size ty).bind fun n => (T.isAgg ty).map fun g => .cell t n (!g)
def ress : List ResultVar → Option (List ARes)
 | [] => some []
 | r :: l => (T.res r).bind fun a => (ress l).bind fun b => some (a :: b)
def func (kills : List (List Nat)) (fn : Func) : Option AFunc :=
 fn.body.bind fun c => (T.code fn.ntmps kills c).bind fun b => (T.ress fn.results.toList).bind fun rs =>
 if fn.params.size + fn.nfree ≤ fn.ntmps ∧ (fn.name == "runtime.NumGoroutine") = false then some { ntmps := fn.ntmps, nargs := fn.params.size + fn.nfree, kills, results := rs, body := b } else none
end Tr
end Go.Proofs.YtigdhgbkgfagiaaGreat
