/- AL: an abstract language for the walked code: values by value, a heap of few blocks, no tape, no capacities behind append, no order of evaluation. Here: its values, its operations, what they yield; and the translation of the model's code into it. · AL: how abstract values and blocks stand to the model's values and memory; the kinds of change of memory. · AL: what the operations yield, they yield in the model: the plain ones. · AL: stores, new variables, structs, arithmetic, texts: what they yield, they yield in the model. · AL: new blocks, numbers, parts of slices: what the operations yield, they yield in the model. · AL: append and copy: what they yield, they yield in the model, whatever the capacities. · AL: copy, parts of slices, fields, indices, lengths, arithmetic, comparisons: what they yield, they yield in the model. -/
import Derived.WalkKit
import Derived.Lib.Bytealg
import Derived.Below
import Derived.Laws.Rows
import Derived.Laws.Tables
import Derived.Deep.MidRow
import Derived.WalkLawsBesides
set_option linter.unusedVariables false
namespace Go.Proofs.YtigdhgbkgfagiaaGreat
inductive V where
 | int (k:IntKind) (n:Int)
 | bool (b:Bool)
 | str (s:List UInt8)
 | agg (cs:List V)
 | lst (size:Nat) (rows:List (List V)) (cap:Option Nat)
 | iptr (size:Nat) (rows:List (List V)) (i o:Nat)
 | ref (a size off len:Nat) (cap:Option Nat)
 | ptr (a size i o:Nat)
 | nilp
 | fn (f:Nat) (first caps:List V)
 | nilf
 | iface (t:Nat) (v:V)
 | nili
 | tup (vs:List V)
 | bot
 | yld (a:Nat)
 | mapp (a:Nat)
 | nilm
inductive AOpd where
 | t (n:Nat)
 | c (v:V)
 | f (n:Nat)
 | g (n:Nat)
inductive Shp where
 | leaf (c:Nat)
 | arr (n size:Nat) (lf:Bool) (e:Shp)
 | nil
 | fld (off size:Nat) (lf:Bool) (s rest:Shp)
inductive ACallee where
 | fn (f:Nat)
 | dyn (x:AOpd)
 | meth (x:AOpd) (tab:List (Nat×Nat))
inductive AOp where
 | mov (x:AOpd)
 | pick (c a b:AOpd)
 | box (x:AOpd)
 | alloc (zero:List V)
 | build (zero:List V) (parts:List (Nat×Nat×AOpd))
 | bslice (size:Nat) (zero:List V) (len:Nat) (parts:List (Nat×AOpd))
 | load (n:Nat) (leaf:Bool) (p:AOpd)
 | store (n:Nat) (p x:AOpd)
 | nilchk (x:AOpd)
 | bin (op:BinOp) (x y:AOpd)
 | beq (neg:Bool) (x y:AOpd)
 | isnil (c:Nat) (neg:Bool) (x:AOpd)
 | acmp (s:Shp) (neg:Bool) (x y:AOpd)
 | un (op:UnOp) (x:AOpd)
 | conv (k:IntKind) (x:AOpd)
 | same (x:AOpd)
 | bytes (x:AOpd)
 | string (x:AOpd)
 | mkiface (t:Nat) (x:AOpd)
 | mkfn (f:Nat) (first caps:List AOpd)
 | mkslice (size bytes:Nat) (zero:List V) (len cap:AOpd)
 | slice (size:Nat) (x:AOpd) (lo hi mx:Option AOpd)
 | slicea (size n:Nat) (x:AOpd) (lo hi mx:Option AOpd)
 | substr (x:AOpd) (lo hi:Option AOpd)
 | fa (x:AOpd) (off:Nat)
 | fld (x:AOpd) (off n:Nat) (leaf:Bool)
 | ia (size:Nat) (x i:AOpd)
 | iaa (size len:Nat) (x i:AOpd)
 | chr (x i:AOpd)
 | idx (size len:Nat) (leaf:Bool) (x i:AOpd)
 | ext (x:AOpd) (i:Nat)
 | len (x:AOpd)
 | slen (x:AOpd)
 | cap (x:AOpd)
 | append (size bytes:Nat) (x y:AOpd)
 | copy (size:Nat) (x y:AOpd)
 | clr (size:Nat) (zero:List V) (x:AOpd)
 | min (xs:List AOpd)
 | max (xs:List AOpd)
 | mkmap (r:Option AOpd)
 | mget (kc:Nat) (zero:V) (ok:Bool) (m k:AOpd)
 | mset (kc:Nat) (m k x:AOpd)
 | mdel (kc:Nat) (m k:AOpd)
 | mlen (m:AOpd)
 | mrange (x:AOpd)
 | srange (x:AOpd)
 | mnext (x:AOpd)
 | snext (x:AOpd)
 | mentry (x:AOpd)
 | mapent (kc:Nat) (zero:V) (m k:AOpd)
 | entstore (m s x:AOpd)
 | xfn (k:Nat) (x y:AOpd)
 | call (c:ACallee) (args:List AOpd)
 | no
def AOp.isCall:AOp→Bool
 | .call _ _=>true
 | _=>false
structure AI where
 dst:Option Nat
 op:AOp
 guard:Option (Nat×Bool)
 anc:List Nat
inductive AC where
 | skip
 | ops (draw:Bool) (l:List AI) (kill:List Nat)
 | seq (a b:AC)
 | cond (c:AOpd) (a b:AC)
 | block (id:Nat) (a:AC)
 | loop (a:AC)
 | range (g:AOpd) (ps:List Nat) (ad body:AC)
 | exit (id:Nat)
 | ret
 | no
inductive Blk where
 | arr (size:Nat) (rows:List (List V))
 | loop (nt:Nat) (E:List (Nat×V)) (ps:List Nat) (ad body:AC)
 | stop (j:AC)
 | map (es:List (V×V)) (bs:List Nat) (clk:Nat)
 | iter (m:Option Nat) (since:Nat) (seen:List Nat) (last:Nat)
 | siter (s:List UInt8) (pos:Nat)
 | junk
abbrev Heap:=List (Option Blk)
def Heap.get (H:Heap) (a:Nat):Option Blk:=H[a]?.getD none
abbrev Env:=List (Nat×V)
def Env.get:Env→Nat→Option V
 | [],_=>none
 | (k,v)::r,t=>bif k == t then some v else Env.get r t
def Env.set:Env→Nat→V→Env
 | [],t,v=>[(t,v)]
 | (k,w)::r,t,v=>bif k == t then (t,v)::r else bif t.blt k then (t,v)::(k,w)::r else (k,w)::Env.set r t v
def Env.kill (e:Env) (ts:List Nat):Env:=e.filter fun p=>!ts.contains p.1
def Env.put (e:Env):Option Nat→V→Env
 | some t,v=>e.set t v
 | none,_=>e
inductive ARes where
 | t (n:Nat)
 | cell (n size:Nat) (leaf:Bool)
structure AFunc where
 ntmps:Nat
 nargs:Nat
 kills:List (List Nat)
 results:List ARes
 body:AC
def lookN:List (Nat×Nat)→Nat→Option Nat
 | [],_=>none
 | p::r,t=>bif Nat.beq p.1 t then some p.2 else lookN r t
structure Eff where
 v:V
 need:List Nat:=[]
 upd:List (Nat×Option Blk):=[]
 new:List Blk:=[]
def V.cells:V→List V
 | .agg cs=>cs
 | v=>[v]
def V.one:V→Bool
 | .agg _|.tup _=>false
 | _=>true
def V.isVal:V→Bool
 | .tup _=>false
 | _=>true
def V.nat?:V→Option Nat
 | .int _ n=>if 0≤n then some n.toNat else none
 | _=>none
def evals (ρ:AOpd→Option V):List AOpd→Option (List V)
 | []=>some []
 | x::r=>(ρ x).bind fun v=>(evals ρ r).bind fun vs=>some (v::vs)
def takeCells (row:List V) (o n:Nat) (leaf:Bool):Option V:=
 let cs:=(row.drop o).take n
 if leaf then (match cs with|[c]=>some c|_=>none) else if cs.length=n then some (.agg cs) else none
def rowsOf (size:Nat) (get:Nat→Option Blk):V→Option (List (List V)×List Nat)
 | .lst size' rows _=>if size'=size∨rows.length=0 then some (rows,[]) else none
 | .ref a size' off len _=>
  match get a with
  | some (.arr size'' rows)=>if size'=size∧size''=size∧off+len≤rows.length then some ((rows.drop off).take len,[a]) else none
  | _=>none
 | .str s=>if size=1 then some (s.map fun b=>[.int .u8 b.toNat],[]) else none
 | _=>none
def over (l:List (List V)) (at':Nat) (r:List (List V)):List (List V):=l.take at'++r++l.drop (at'+r.length)
def intBitsV (op:BinOp) (k:IntKind) (x y:Int):Option V:=
 let a:=BitVec.ofInt k.bits x
 let b:=BitVec.ofInt k.bits y
 match op with
 | .and=>some (.int k (k.wrap (a &&& b).toNat))
 | .or=>some (.int k (k.wrap (a ||| b).toNat))
 | .xor=>some (.int k (k.wrap (a ^^^ b).toNat))
 | .andNot=>some (.int k (k.wrap (a &&& ~~~b).toNat))
 | _=>none
def binInt (op:BinOp) (k:IntKind) (x y:Int):Option V:=
 match op with
 | .add=>some (.int k (k.wrap (x+y)))
 | .sub=>some (.int k (k.wrap (x - y)))
 | .mul=>some (.int k (k.wrap (x*y)))
 | .quo=>if y=0 then none else some (.int k (k.wrap (x.tdiv y)))
 | .rem=>if y=0 then none else some (.int k (x.tmod y))
 | .and|.or|.xor|.andNot=>intBitsV op k x y
 | .eql=>some (.bool (x == y))
 | .neq=>some (.bool (x != y))
 | .lss=>some (.bool (decide (x < y)))
 | .leq=>some (.bool (decide (x≤y)))
 | .gtr=>some (.bool (decide (x > y)))
 | .geq=>some (.bool (decide (x ≥ y)))
 | _=>none
def shiftInt (op:BinOp) (k:IntKind) (x y:Int):Option V:=
 if y < 0 then none else
 let n:=Nat.min y.toNat k.bits
 match op with
 | .shl=>some (.int k (k.wrap (x*2 ^ n)))
 | .shr=>some (.int k (x.fdiv (2 ^ n)))
 | _=>none
def strBig:Nat:=1152921504606846976
def binStr (op:BinOp) (x y:List UInt8):Option V:=
 match op with
 | .add=>if x.length+y.length≤strBig then some (.str (x++y)) else none
 | .eql=>some (.bool (x == y))
 | .neq=>some (.bool (!(x == y)))
 | .lss=>some (.bool (Op.bytesLess x y))
 | .leq=>some (.bool (Op.bytesLess x y||x == y))
 | .gtr=>some (.bool (!(Op.bytesLess x y||x == y)))
 | .geq=>some (.bool (!Op.bytesLess x y))
 | _=>none
def binV (op:BinOp):V→V→Option V
 | .int j a,.int k b=>
  match op with
  | .shl|.shr=>shiftInt op j a b
  | _=>if j=k then binInt op j a b else none
 | .str a,.str b=>binStr op a b
 | _,_=>none
def unV (op:UnOp):V→Option V
 | .int k n=>
  match op with
  | .neg=>some (.int k (k.wrap (0 - n)))
  | .xor=>intBitsV .xor k (if k.signed then -1 else k.max) n
  | _=>none
 | .bool b=>match op with|.not=>some (.bool (!b))|_=>none
 | _=>none
def foldInts (pick:Int→Int→Int):V→List V→Option V
 | v,[]=>some v
 | .int k x,.int k' y::r=>if k=k' then foldInts pick (.int k (pick x y)) r else none
 | _,_=>none
def optNat (ρ:AOpd→Option V) (d:Nat):Option AOpd→Option Nat
 | none=>some d
 | some x=>(ρ x).bind V.nat?
def fillCells (cells:List V):List (Nat×Nat×V)→Option (List V)
 | []=>some cells
 | (off,size,v)::r=>
  if v.cells.length=size∧v.isVal=true∧off+size≤cells.length then fillCells (cells.take off++v.cells++cells.drop (off+size)) r else none
def evalParts (ρ:AOpd→Option V):List (Nat×Nat×AOpd)→Option (List (Nat×Nat×V))
 | []=>some []
 | (a,b,x)::r=>(ρ x).bind fun v=>(evalParts ρ r).bind fun vs=>some ((a,b,v)::vs)
def evalParts1 (ρ:AOpd→Option V):List (Nat×AOpd)→Option (List (Nat×V))
 | []=>some []
 | (a,x)::r=>(ρ x).bind fun v=>(evalParts1 ρ r).bind fun vs=>some ((a,v)::vs)
def fillRows (size:Nat) (rows:List (List V)):List (Nat×V)→Option (List (List V))
 | []=>some rows
 | (i,v)::r=>if v.cells.length=size∧v.isVal=true∧i < rows.length then fillRows size (rows.set i v.cells) r else none
def roomOk (need bytes:Nat):Bool:=decide (need*bytes≤140737488355328)
def appendV (n size bytes:Nat) (get:Nat→Option Blk) (x y:V):Option Eff:=
 (rowsOf size get y).bind fun (ys,ny)=>
 match x with
 | .lst size' rows cap=>
  if ys.length=0 then some { v:=x,need:=ny }
  else
  match cap with
  | some c=>
   if c < rows.length+ys.length∧(size'=size∨rows.length=0)∧roomOk (rows.length+ys.length) bytes then
    some { v:=.ref n size 0 (rows.length+ys.length) none,need:=ny,new:=[.arr size (rows++ys)] }
   else none
  | none=>none
 | .ref a size' off len cap=>
  match get a with
  | some (.arr size'' rows)=>
   if size'=size∧size''=size∧off+len≤rows.length then
    match cap with
    | some c=>
     if len+ys.length≤c then
      if off+len+ys.length≤rows.length then
       some { v:=.ref a size off (len+ys.length) (some c),need:=a::ny,upd:=[(a,some (.arr size (over rows (off+len) ys)))] }
      else none
     else if roomOk (len+ys.length) bytes then
      some { v:=.ref n size 0 (len+ys.length) none,need:=a::ny,new:=[.arr size ((rows.drop off).take len++ys)] }
     else none
    | none=>
     if off=0∧len=rows.length∧roomOk (len+ys.length) bytes then
      some { v:=.ref n size 0 (len+ys.length) none,need:=a::ny,upd:=[(a,none)],new:=[.arr size (rows++ys)] }
     else none
   else none
  | _=>none
 | _=>none
def copyV (size:Nat) (get:Nat→Option Blk) (x y:V):Option Eff:=
 (rowsOf size get y).bind fun (ys,ny)=>
 match x with
 | .lst _ rows _=>if rows.length=0∨ys.length=0 then some { v:=.int .i64 0,need:=ny } else none
 | .ref a size' off len cap=>
  match get a with
  | some (.arr size'' rows)=>
   if size'=size∧size''=size∧off+len≤rows.length then
    some { v:=.int .i64 (Nat.min ys.length len),need:=a::ny,upd:=[(a,some (.arr size (over rows off (ys.take len))))] }
   else none
  | _=>none
 | _=>none
def clrV (size:Nat) (zero:List V) (get:Nat→Option Blk) (x:V):Option Eff:=
 match x with
 | .lst _ rows _=>if rows.length=0 then some { v:=.tup [] } else none
 | .ref a size' off len cap=>
  match get a with
  | some (.arr size'' rows)=>
   if size'=size∧size''=size∧off+len≤rows.length then some { v:=.tup [],need:=[a],upd:=[(a,some (.arr size (over rows off (List.replicate len zero))))] } else none
  | _=>none
 | _=>none
def loadV (get:Nat→Option Blk) (n:Nat) (leaf:Bool):V→Option Eff
 | .ptr a size i o=>
  match get a with
  | some (.arr size' rows)=>
   if size=size' then (rows[i]?).bind fun row=>(takeCells row o n leaf).bind fun v=>some { v,need:=[a] } else none
  | _=>none
 | .iptr size rows i o=>(rows[i]?).bind fun row=>(takeCells row o n leaf).bind fun v=>some { v }
 | _=>none
def storeV (get:Nat→Option Blk) (n:Nat) (p x:V):Option Eff:=
 match p with
 | .ptr a size i o=>
  match get a with
  | some (.arr size' rows)=>
   if size=size'∧x.cells.length=n∧x.isVal=true then
    (rows[i]?).bind fun row=>
    if o+n≤row.length then some { v:=.tup [],need:=[a],upd:=[(a,some (.arr size (rows.set i (row.take o++x.cells++row.drop (o+n)))))] } else none
   else none
  | _=>none
 | _=>none
def sliceV (size:Nat) (x:V) (lo hi mx:Option (Option Nat)):Option V:=
 match x with
 | .ref a size' off len cap=>
  match lo,hi,mx with
  | some l,some h,some m=>
   let h':=h.getD len
   let l':=l.getD 0
   match m with
   | none=>
    if size'=size∧l'≤h'∧h'≤cap.getD len then some (.ref a size (off+l') (h' - l') (cap.map (· - l'))) else none
   | some m'=>
    if size'=size∧l'≤h'∧h'≤m'∧m'≤cap.getD len then some (.ref a size (off+l') (h' - l') (some (m' - l'))) else none
  | _,_,_=>none
 | .lst size' rows cap=>
  match lo,hi,mx with
  | some l,some h,some m=>
   let h':=h.getD rows.length
   let l':=l.getD 0
   match m with
   | none=>if ((size'=size∨rows.length=0)∧size≠0∧size≠1000003)∧l'≤h'∧h'≤rows.length then some (.lst (if rows.length=0 then size' else size) ((rows.drop l').take (h' - l')) (cap.map (· - l'))) else none
   | some m'=>if ((size'=size∨rows.length=0)∧size≠0∧size≠1000003)∧l'≤h'∧h'≤m'∧m'≤rows.length then some (.lst (if rows.length=0 then size' else size) ((rows.drop l').take (h' - l')) (some (m' - l'))) else none
  | _,_,_=>none
 | _=>none
def sliceaV (get:Nat→Option Blk) (size n:Nat) (x:V) (lo hi mx:Option (Option Nat)):Option Eff:=
 match x with
 | .ptr a s i o=>
  match get a with
  | some (.arr s2 rows)=>
   match lo,hi,mx with
   | some l,some h,some m=>
    let m':=m.getD n
    let h':=h.getD n
    let l':=l.getD 0
    if (s2=size∧0 < size∧(i*s+o) % size=0∧(i*s+o) / size+n≤rows.length)∧l'≤h'∧h'≤m'∧m'≤n then some { v:=.ref a size ((i*s+o) / size+l') (h' - l') (some (m' - l')),need:=[a] } else none
   | _,_,_=>none
  | _=>none
 | _=>none
def optNat? (ρ:AOpd→Option V):Option AOpd→Option (Option Nat)
 | none=>some none
 | some x=>((ρ x).bind V.nat?).map some
def isnilV:Nat→V→Option Bool
 | 0,.lst s rows _=>if rows.length=0 then (if s=0 then some true else if s=1000003 then some false else none) else some false
 | 0,.ref _ _ _ _ _=>some false
 | 1,.nilp=>some true
 | 1,.ptr _ _ _ _=>some false
 | 1,.iptr _ _ _ _=>some false
 | 2,.nilm=>some true
 | 2,.mapp _=>some false
 | 3,.nilf=>some true
 | 3,.fn _ _ _=>some false
 | 3,.yld _=>some false
 | 4,.nili=>some true
 | 4,.iface _ _=>some false
 | _,_=>none
def nilFits:TypeDesc→Operand→Option Nat
 | .slice _,.const (.slice none 0 0)=>some 0
 | .pointer _,.const (.pointer none)=>some 1
 | .map _ _,.const (.map none)=>some 2
 | .func _ _ _,.const .nilFunc=>some 3
 | .interface _,.const .nilIface=>some 4
 | _,_=>none
def sameK0:Nat→V→V→Option Bool
 | 0,.int j a,.int k b=>if j=k then some (a == b) else none
 | 1,.str a,.str b=>some (a == b)
 | 2,.bool a,.bool b=>some (a == b)
 | _,_,_=>none
def kcs:Nat→Nat→List Nat
 | 0,_=>[]
 | f+1,n=>if n=0 then [] else (n % 4 - 1)::kcs f (n / 4)
def kcOf:List Nat→Nat
 | []=>0
 | c::r=>c+1+4*kcOf r
def sameCs:List Nat→List V→List V→Option Bool
 | [],[],[]=>some true
 | c::cs,a::r,b::s=>(sameK0 c a b).bind fun x=>(sameCs cs r s).bind fun y=>some (x&&y)
 | _,_,_=>none
def sameK (c:Nat) (x y:V):Option Bool:=
 if c < 3 then sameK0 c x y else match x,y with|.agg xs,.agg ys=>sameCs (kcs 12 (c - 3)) xs ys|_,_=>none
def eqLoop (f:Nat→Option Bool):Nat→Nat→Option Bool
 | 0,_=>some true
 | n+1,i=>match f i with|some true=>eqLoop f n (i+1)|r=>r
def eqS:Shp→V→V→Option Bool
 | .leaf c,x,y=>sameK0 c x y
 | .arr n k lf e,.agg cs,.agg ds=>eqLoop (fun i=>(takeCells cs (i*k) k lf).bind fun a=>(takeCells ds (i*k) k lf).bind fun b=>eqS e a b) n 0
 | .nil,.agg _,.agg _=>some true
 | .fld off k lf s rest,.agg cs,.agg ds=>match (takeCells cs off k lf).bind fun a=>(takeCells ds off k lf).bind fun b=>eqS s a b with|some true=>eqS rest (.agg cs) (.agg ds)|r=>r
 | _,_,_=>none
def findK (kc:Nat) (k:V):List (V×V)→Nat→Option (Option Nat)
 | [],_=>some none
 | e::es,i=>match sameK kc k e.1 with|some true=>some (some i)|some false=>findK kc k es (i+1)|none=>none
def mapOf (get:Nat→Option Blk):V→Option (List (V×V)×List Nat)
 | .nilm=>some ([],[])
 | .mapp a=>match get a with|some (.map es _ _)=>some (es,[a])|_=>none
 | _=>none
def keyV0:Nat→V→Bool
 | 0,.int _ _=>true
 | 1,.str _=>true
 | 2,.bool _=>true
 | _,_=>false
def keyCs:List Nat→List V→Bool
 | [],[]=>true
 | c::cs,v::vs=>keyV0 c v&&keyCs cs vs
 | _,_=>false
def keyV (c:Nat) (v:V):Bool:=if c < 3 then keyV0 c v else match v with|.agg vs=>keyCs (kcs 12 (c - 3)) vs|_=>false
def pickV (es:List (V×V)) (z:V):Option Nat→V
 | some i=>((es[i]?).map (·.2)).getD z
 | none=>z
def mgetV (get:Nat→Option Blk) (kc:Nat) (zero:V) (ok:Bool) (m k:V):Option Eff:=
 if keyV kc k then
  (mapOf get m).bind fun (es,nd)=>(findK kc k es 0).bind fun r=>
   let v:=pickV es zero r
   some { v:=if ok then .tup [v,.bool r.isSome] else v,need:=nd }
 else none
def msetV (get:Nat→Option Blk) (kc:Nat) (m k x:V):Option Eff:=
 match m with
 | .mapp a=>
  match get a with
  | some (.map es bs clk)=>
   if keyV kc k&&x.isVal then
    (findK kc k es 0).bind fun r=>some { v:=.tup [],need:=[a],upd:=[(a,some (match r with|some i=>.map (es.set i (k,x)) bs clk|none=>.map (es++[(k,x)]) (bs++[clk]) (clk+1)))] }
   else none
  | _=>none
 | _=>none
def mdelV (get:Nat→Option Blk) (kc:Nat) (m k:V):Option Eff:=
 match m with
 | .mapp a=>
  match get a with
  | some (.map es bs clk)=>
   if keyV kc k then
    (findK kc k es 0).bind fun r=>some { v:=.tup [],need:=[a],upd:=[(a,some (match r with|some i=>.map (es.eraseIdx i) (bs.eraseIdx i) clk|none=>.map es bs clk))] }
   else none
  | _=>none
 | _=>none
def findN (b:Nat):List Nat→Nat→Option Nat
 | [],_=>none
 | x::r,i=>bif Nat.beq x b then some i else findN b r (i+1)
def memN (b:Nat):List Nat→Bool
 | []=>false
 | x::r=>bif Nat.beq x b then true else memN b r
def mapentV (get:Nat→Option Blk) (kc:Nat) (zero:V) (m k:V):Option Eff:=
 match m with
 | .mapp a=>
  match get a with
  | some (.map es bs clk)=>
   if keyV kc k&&zero.isVal then
    (findK kc k es 0).bind fun r=>
     match r with
     | some i=>some { v:=.tup [pickV es zero r,.int .i64 ((bs[i]?).getD 0:Nat)],need:=[a],upd:=[(a,some (.map (es.set i (k,pickV es zero r)) bs clk))] }
     | none=>some { v:=.tup [zero,.int .i64 (clk:Nat)],need:=[a],upd:=[(a,some (.map (es++[(k,zero)]) (bs++[clk]) (clk+1)))] }
   else none
  | _=>none
 | _=>none
def entstoreV (get:Nat→Option Blk) (m st x:V):Option Eff:=
 match m,st with
 | .mapp a,.int .i64 b=>
  match get a with
  | some (.map es bs clk)=>
   if 0≤b∧x.isVal then
    (findN b.toNat bs 0).bind fun i=>(es[i]?).bind fun p=>some { v:=.tup [],need:=[a],upd:=[(a,some (.map (es.set i (p.1,x)) bs clk))] }
   else none
  | _=>none
 | _,_=>none
def mrangeV (n:Nat) (get:Nat→Option Blk):V→Option Eff
 | .nilm=>some { v:=.ptr n 0 0 0,new:=[.iter none 0 [] 0] }
 | .mapp a=>match get a with|some (.map _ _ clk)=>some { v:=.ptr n 0 0 0,need:=[a],new:=[.iter (some a) clk [] clk] }|_=>none
 | _=>none
def srangeV (n:Nat):V→Option Eff
 | .str s=>some { v:=.ptr n 0 0 0,new:=[.siter s 0] }
 | _=>none
def candsN (seen:List Nat):List Nat→List (V×V)→List (Nat×(V×V))
 | b::bs,p::es=>bif memN b seen then candsN seen bs es else (b,p)::candsN seen bs es
 | _,_=>[]
def allLt (b:Nat):List Nat→Bool
 | []=>true
 | x::r=>Nat.blt x b&&allLt b r
def nextE (get:Nat→Option Blk):V→Option (List Eff)
 | .ptr r 0 0 0=>
  match get r with
  | some (.iter none _ _ _)=>some [{ v:=.tup [.bool false],need:=[r] }]
  | some (.iter (some m) since seen last)=>
   match get m with
   | some (.map es bs clk)=>
    if allLt since bs=true∧Nat.ble since last=true then
     match candsN seen bs es with
     | []=>some [{ v:=.tup [.bool false],need:=[r,m] }]
     | c::cs=>some ((c::cs).map fun c=>{ v:=.tup [.bool true,c.2.1,c.2.2],need:=[r,m],upd:=[(r,some (.iter (some m) since (seen++[c.1]) clk))] })
    else none
   | _=>none
  | _=>none
 | _=>none
def mnextV (get:Nat→Option Blk) (x:V):Option Eff:=
 match nextE get x with
 | some [e]=>some e
 | _=>none
def mentryV (get:Nat→Option Blk):V→Option Eff
 | .ptr r 0 0 0=>
  match get r with
  | some (.iter (some m) _ seen last)=>
   match get m with
   | some (.map es bs clk)=>
    if clk=last then
     (seen.getLast?).bind fun b=>(findN b bs 0).bind fun i=>(es[i]?).bind fun p=>some { v:=.tup [p.1,p.2],need:=[r,m] }
    else none
   | _=>none
  | _=>none
 | _=>none
def snextV (get:Nat→Option Blk):V→Option Eff
 | .ptr r 0 0 0=>
  match get r with
  | some (.siter s pos)=>
   if pos < s.length then
    let d:=Utf8.decode ⟨s.toArray⟩ pos
    some { v:=.tup [.bool true,.int .i64 (pos:Nat),.int .i32 (d.1:Nat)],need:=[r],upd:=[(r,some (.siter s (pos+d.2)))] }
   else some { v:=.tup [.bool false],need:=[r] }
  | _=>none
 | _=>none
def unRow (r:List V) (acc:Option (List UInt8)):Option (List UInt8):=acc.bind fun s=>match r with|[.int .u8 b]=>some (UInt8.ofNat b.toNat::s)|_=>none
def xfnV:Nat→V→V→Option V
 | 0,.str s,.int .u8 c=>some (.int .i64 ((Lib.countByte s c.toNat.toUInt8:Nat):Int))
 | 1,.str s,.int .u8 c=>some (.int .i64 (Lib.indexByte s c.toNat.toUInt8))
 | _,_,_=>none
def AOp.exec0 (n:Nat) (get:Nat→Option Blk) (ρ:AOpd→Option V):AOp→Option Eff
 | .mov x=>(ρ x).bind fun v=>some { v }
 | .pick c a b=>(ρ c).bind fun v=>match v with|.bool true=>(ρ a).bind fun v=>some { v }|.bool false=>(ρ b).bind fun v=>some { v }|_=>none
 | .box x=>(ρ x).bind fun v=>if v.isVal then some { v:=.ptr n v.cells.length 0 0,new:=[.arr v.cells.length [v.cells]] } else none
 | .alloc zero=>some { v:=.ptr n zero.length 0 0,new:=[.arr zero.length [zero]] }
 | .build zero parts=>(evalParts ρ parts).bind fun ps=>(fillCells zero ps).bind fun cs=>some { v:=.agg cs }
 | .bslice size zero ln parts=>(evalParts1 ρ parts).bind fun ps=>(fillRows size (List.replicate ln zero) ps).bind fun rows=>
     some { v:=.ref n size 0 ln (some ln),new:=[.arr size rows] }
 | .load k leaf p=>(ρ p).bind (loadV get k leaf)
 | .store k p x=>(ρ p).bind fun p=>(ρ x).bind fun x=>storeV get k p x
 | .nilchk x=>(ρ x).bind fun v=>match v with|.ptr ..|.iptr ..|.fn ..|.iface ..=>some { v }|_=>none
 | .bin op x y=>(ρ x).bind fun x=>(ρ y).bind fun y=>(binV op x y).bind fun v=>some { v }
 | .beq neg x y=>(ρ x).bind fun x=>(ρ y).bind fun y=>match x,y with|.bool a,.bool b=>some { v:=.bool (if neg then !(a == b) else a == b) }|_,_=>none
 | .acmp s neg x y=>(ρ x).bind fun x=>(ρ y).bind fun y=>(eqS s x y).bind fun b=>some { v:=.bool (if neg then !b else b) }
 | .isnil c neg x=>(ρ x).bind fun x=>(isnilV c x).bind fun b=>some { v:=.bool (if neg then !b else b) }
 | .un op x=>(ρ x).bind fun x=>(unV op x).bind fun v=>some { v }
 | .conv k x=>(ρ x).bind fun x=>match x with|.int _ n=>some { v:=.int k (k.wrap n) }|_=>none
 | .same x=>(ρ x).bind fun x=>match x with|.str s=>some { v:=.str s }|_=>none
 | .bytes x=>(ρ x).bind fun x=>match x with|.str s=>some { v:=.ref n 1 0 s.length none,new:=[.arr 1 (s.map fun b=>[.int .u8 b.toNat])] }|_=>none
 | .string x=>(ρ x).bind fun x=>(match x with|.str _=>none|_=>some ()).bind fun _=>(rowsOf 1 get x).bind fun (rows,nd)=>(rows.foldr unRow (some [])).bind fun s=>some { v:=.str s,need:=nd }
 | .mkiface t x=>(ρ x).bind fun x=>some { v:=.iface t x }
 | .mkfn f first caps=>(evals ρ first).bind fun fs=>(evals ρ caps).bind fun cs=>some { v:=.fn f fs cs }
 | .mkslice size bts zero ln cp=>((ρ ln).bind V.nat?).bind fun l=>((ρ cp).bind V.nat?).bind fun c=>
     if l≤c∧c*bts≤140737488355328∧c < 9223372036854775808∧zero.length=size then some { v:=.ref n size 0 l (some c),new:=[.arr size (List.replicate c zero)] } else none
 | .slice size x lo hi mx=>(ρ x).bind fun x=>(sliceV size x (optNat? ρ lo) (optNat? ρ hi) (optNat? ρ mx)).bind fun v=>some { v }
 | .slicea size m x lo hi mx=>(ρ x).bind fun x=>sliceaV get size m x (optNat? ρ lo) (optNat? ρ hi) (optNat? ρ mx)
 | .substr x lo hi=>(ρ x).bind fun x=>match x with
     | .str s=>(optNat ρ 0 lo).bind fun l=>(optNat ρ s.length hi).bind fun h=>if l≤h∧h≤s.length then some { v:=.str ((s.drop l).take (h - l)) } else none
     | _=>none
 | .fa x off=>(ρ x).bind fun x=>match x with
     | .ptr a size i o=>some { v:=.ptr a size i (o+off) }
     | .iptr size rows i o=>some { v:=.iptr size rows i (o+off) }
     | _=>none
 | .fld x off k leaf=>(ρ x).bind fun x=>match x with
     | .agg cs=>(takeCells cs off k leaf).bind fun v=>some { v }
     | _=>none
 | .ia size x i=>(ρ x).bind fun x=>((ρ i).bind V.nat?).bind fun i=>match x with
     | .ref a size' off ln _=>if size'=size∧i < ln then some { v:=.ptr a size (off+i) 0 } else none
     | .lst size' rows _=>if size'=size∧i < rows.length then some { v:=.iptr size rows i 0 } else none
     | _=>none
 | .iaa size ln x i=>(ρ x).bind fun x=>((ρ i).bind V.nat?).bind fun i=>
     if i < ln then
      match x with
      | .ptr a size' j o=>some { v:=.ptr a size' j (o+i*size) }
      | .iptr size' rows j o=>some { v:=.iptr size' rows j (o+i*size) }
      | _=>none
     else none
 | .chr x i=>(ρ x).bind fun x=>((ρ i).bind V.nat?).bind fun i=>match x with
     | .str s=>(s[i]?).bind fun b=>some { v:=.int .u8 b.toNat }
     | _=>none
 | .idx size ln leaf x i=>(ρ x).bind fun x=>((ρ i).bind V.nat?).bind fun i=>match x with
     | .agg cs=>if i < ln then (takeCells cs (i*size) size leaf).bind fun v=>some { v } else none
     | _=>none
 | .ext x i=>(ρ x).bind fun x=>match x with
     | .tup vs=>(vs[i]?).bind fun v=>some { v }
     | _=>none
 | .len x=>(ρ x).bind fun x=>match x with
     | .ref _ _ _ ln _=>some { v:=.int .i64 ln }
     | .lst _ rows _=>some { v:=.int .i64 rows.length }
     | _=>none
 | .slen x=>(ρ x).bind fun x=>match x with
     | .str s=>some { v:=.int .i64 s.length }
     | _=>none
 | .cap x=>(ρ x).bind fun x=>match x with
     | .ref _ _ _ _ (some c)=>some { v:=.int .i64 c }
     | .lst _ _ (some c)=>some { v:=.int .i64 c }
     | _=>none
 | .append size bts x y=>(ρ x).bind fun x=>(ρ y).bind fun y=>appendV n size bts get x y
 | .clr size zero x=>(ρ x).bind fun x=>clrV size zero get x
 | .copy size x y=>(ρ x).bind fun x=>(ρ y).bind fun y=>copyV size get x y
 | .min xs=>(evals ρ xs).bind fun vs=>match vs with|v::r=>(foldInts (fun x y=>if y < x then y else x) v r).bind fun v=>some { v }|[]=>none
 | .max xs=>(evals ρ xs).bind fun vs=>match vs with|v::r=>(foldInts (fun x y=>if y > x then y else x) v r).bind fun v=>some { v }|[]=>none
 | .mkmap r=>(match r with|none=>some ()|some x=>(ρ x).bind fun v=>match v with|.int _ _=>some ()|_=>none).bind fun _=>some { v:=.mapp n,new:=[.map [] [] 0] }
 | .mget kc zero ok m k=>(ρ m).bind fun m=>(ρ k).bind fun k=>mgetV get kc zero ok m k
 | .mset kc m k x=>(ρ m).bind fun m=>(ρ k).bind fun k=>(ρ x).bind fun x=>msetV get kc m k x
 | .mdel kc m k=>(ρ m).bind fun m=>(ρ k).bind fun k=>mdelV get kc m k
 | .mlen m=>(ρ m).bind fun m=>(mapOf get m).bind fun (es,nd)=>some { v:=.int .i64 es.length,need:=nd }
 | .mrange x=>(ρ x).bind fun x=>mrangeV n get x
 | .srange x=>(ρ x).bind fun x=>srangeV n x
 | .mnext x=>(ρ x).bind fun x=>mnextV get x
 | .snext x=>(ρ x).bind fun x=>snextV get x
 | .mentry x=>(ρ x).bind fun x=>mentryV get x
 | .mapent kc zero m k=>(ρ m).bind fun m=>(ρ k).bind fun k=>mapentV get kc zero m k
 | .entstore m st x=>(ρ m).bind fun m=>(ρ st).bind fun st=>(ρ x).bind fun x=>entstoreV get m st x
 | .xfn k x y=>(ρ x).bind fun x=>(ρ y).bind fun y=>(xfnV k x y).bind fun v=>some { v }
 | .call _ _=>none
 | .no=>none
def chunkN (size:Nat):Nat→List V→List (List V)
 | 0,_=>[]
 | n+1,l=>l.take size::chunkN size n (l.drop size)
def Blk.shape (size:Nat):Blk→Blk
 | .arr s rows=>if s=size then .arr s rows else if 0 < size∧(rows.length*s) % size=0 then .arr size (chunkN size (rows.length*s / size) rows.flatten) else .arr s rows
 | b=>b
def shG (size:Nat) (get:Nat→Option Blk) (a:Nat):Option Blk:=(get a).map (Blk.shape size)
def V.psz:V→Nat
 | .ptr _ s _ _=>s
 | _=>0
def AOp.sz (ρ:AOpd→Option V):AOp→Nat
 | .load _ _ p=>((ρ p).map V.psz).getD 0
 | .store _ p _=>((ρ p).map V.psz).getD 0
 | .string _=>1
 | .append size _ _ _=>size
 | .copy size _ _=>size
 | .clr size _ _=>size
 | .slicea size _ _ _ _ _=>size
 | _=>0
def AOp.exec (n:Nat) (get:Nat→Option Blk) (ρ:AOpd→Option V) (o:AOp):Option Eff:=o.exec0 n (shG (o.sz ρ) get) ρ
structure Tr where
 P:Program
 fns:FuncId→Option Nat
 tys:TypeId→Option Nat
 gls:Nat→Option Nat
 xk:FuncId→Option Nat
mutual
def V.of:Value→Option V
 | .bool b=>some (.bool b)
 | .int k n=>some (.int k n)
 | .string s=>some (.str s.data.toList)
 | .pointer none=>some .nilp
 | .slice none 0 0=>some (.lst 0 [] (some 0))
 | .nilFunc=>some .nilf
 | .map none=>some .nilm
 | .nilIface=>some .nili
 | .agg cs=>(V.ofs cs.toList).map .agg
 | _=>none
def V.ofs:List Value→Option (List V)
 | []=>some []
 | v::r=>(V.of v).bind fun x=>(V.ofs r).bind fun xs=>if x.one then some (x::xs) else none
end
namespace Tr
variable (T:Tr)
def opd:Operand→Option AOpd
 | .tmp t=>some (.t t)
 | .const v=>(V.of v).map .c
 | .func f=>(T.fns f).map .f
 | .global g=>(T.gls g).map .g
def opds:List Operand→Option (List AOpd)
 | []=>some []
 | x::r=>(T.opd x).bind fun a=>(opds r).bind fun l=>some (a::l)
def isAgg (t:TypeId):Option Bool:=
 match T.P.underlying t with
 | some (.struct _)|some (.array _ _)=>some true
 | some _=>some false
 | none=>none
def size (t:TypeId):Option Nat:=(T.P.info? t).map (·.size)
def bytes (t:TypeId):Option Nat:=(T.P.info? t).map (·.bytes)
def zero (t:TypeId):Option (List V):=((T.P.info? t).bind (·.zero)).bind fun z=>V.ofs z.cells.toList
def zeroW (t:TypeId):Option V:=((T.P.info? t).bind (·.zero)).bind V.of
def odd:Option Operand→Option (Option AOpd)
 | none=>some none
 | some x=>(T.opd x).map some
def parts (place:Nat→Option (Nat×Nat)):List (Nat×Operand)→Option (List (Nat×Nat×AOpd))
 | []=>some []
 | (i,x)::r=>(place i).bind fun (o,s)=>(T.opd x).bind fun a=>(parts place r).bind fun l=>some ((o,s,a)::l)
def parts1:List (Nat×Operand)→Option (List (Nat×AOpd))
 | []=>some []
 | (i,x)::r=>(T.opd x).bind fun a=>(parts1 r).bind fun l=>some ((i,a)::l)
def fieldOf (s:TypeId) (f:Nat):Option Field:=
 match T.P.underlying s with
 | some (.struct fs)=>fs[f]?
 | _=>none
def isU8 (t:TypeId):Bool:=match T.P.underlying t with|some (.int .u8)=>true|_=>false
def keyC0 (t:TypeId):Option Nat:=match T.P.underlying t with|some (.int _)=>some 0|some .string=>some 1|some .bool=>some 2|_=>none
def flat:Nat→List Field→Option (List Nat)
 | _,[]=>some []
 | i,f::r=>if f.name="_"∨f.offset≠i∨T.size f.type≠some 1∨T.isAgg f.type≠some false then none else (T.keyC0 f.type).bind fun c=>(flat (i+1) r).map (c::·)
def keyC (t:TypeId):Option Nat:=
 match T.P.underlying t with
 | some (.struct fs)=>if T.P.stoodInHeld t=false then (T.flat 0 fs.toList).bind fun cs=>if kcs 12 (kcOf cs)=cs then some (3+kcOf cs) else none else none
 | _=>T.keyC0 t
def shapeFs (sh:TypeId→Option Shp):List Field→Option Shp
 | []=>some .nil
 | f::r=>if f.name="_" then none else (T.size f.type).bind fun k=>(T.isAgg f.type).bind fun g=>(sh f.type).bind fun s=>(shapeFs sh r).map (.fld f.offset k (!g) s)
def shape:Nat→TypeId→Option Shp
 | 0,_=>none
 | d+1,t=>
  match T.P.underlying t with
  | some (.array n e)=>(T.size e).bind fun k=>(T.isAgg e).bind fun g=>(shape d e).map (.arr n k (!g))
  | some (.struct fs)=>if T.P.stoodInHeld t=false then T.shapeFs (shape d) fs.toList else none
  | _=>(T.keyC0 t).map .leaf
def builtin (b:Builtin) (ts:List TypeId) (args:List Operand):Option AOp:=
 match b,ts,args with
 | .len,[t],[x]=>
  match T.P.underlying t with
  | some .string=>(T.opd x).map .slen
  | some (.slice _)=>(T.opd x).map .len
  | some (.map _ _)=>(T.opd x).map .mlen
  | _=>none
 | .delete,[t,_],[x,y]=>
  match T.P.underlying t with
  | some (.map k _)=>(T.keyC k).bind fun c=>(T.opd x).bind fun a=>(T.opd y).map (.mdel c a)
  | _=>none
 | .cap,[t],[x]=>
  match T.P.underlying t with
  | some (.slice _)=>(T.opd x).map .cap
  | _=>none
 | .append,[t,u],[x,y]=>
  match T.P.underlying t,T.P.underlying u with
  | some (.slice e),some (.slice _)|some (.slice e),some .string=>
   (T.size e).bind fun s=>(T.bytes e).bind fun k=>(T.zero e).bind fun z=>(T.opd x).bind fun a=>(T.opd y).bind fun b=>if s=0∨k=0∨z.length≠s then none else some (.append s k a b)
  | _,_=>none
 | .copy,[t,u],[x,y]=>
  match T.P.underlying t,T.P.underlying u with
  | some (.slice e),some (.slice _)|some (.slice e),some .string=>
   (T.size e).bind fun s=>(T.opd x).bind fun a=>(T.opd y).bind fun b=>if s=0 then none else some (.copy s a b)
  | _,_=>none
 | .clear,[t],[x]=>
  match T.P.underlying t with
  | some (.slice e)=>(T.size e).bind fun s=>(T.zero e).bind fun z=>(T.opd x).bind fun a=>if z.length=s then some (.clr s z a) else none
  | _=>none
 | .min,_,xs=>(T.opds xs).map .min
 | .max,_,xs=>(T.opds xs).map .max
 | _,_,_=>none
def methOf (t:TypeId) (name:String):Option Nat:=
 (T.P.info? t).bind fun i=>(i.methods.find? (·.name == name)).bind fun m=>
  match m.path.toList,m.func,T.P.underlying t with
  | [],some (f,true),some (.pointer _)=>T.fns f
  | [],some (_,false),some (.pointer _)=>none
  | [],some (f,false),some _=>T.fns f
  | _,_,_=>none
def meths (name:String):List (Nat×Nat):=(List.range T.P.types.size).filterMap fun t=>(T.tys t).bind fun k=>(T.methOf t name).map fun f=>(k,f)
def op:Op→Option AOp
 | .move x|.assign x=>(T.opd x).map .mov
 | .pick c a b=>(T.opd c).bind fun c=>(T.opd a).bind fun a=>(T.opd b).bind fun b=>some (.pick c a b)
 | .alloc e=>(T.zero e).map .alloc
 | .box _ x=>(T.opd x).map .box
 | .build t ps=>
  match T.P.underlying t with
  | some (.struct fs)=>(fs.toList.mapM fun f=>(T.P.info? f.type).map fun i=>(f.offset,i.size)).bind fun places=>(T.zero t).bind fun z=>(T.parts (places[·]?) ps.toList).map (.build z)
  | some (.array _ e)=>(T.zero t).bind fun z=>(T.size e).bind fun s=>(T.parts (fun i=>some (i*s,s)) ps.toList).map (.build z)
  | _=>none
 | .buildSlice t n ps=>
  match T.P.underlying t with
  | some (.slice e)=>(T.size e).bind fun s=>(T.zero e).bind fun z=>(T.parts1 ps.toList).bind fun l=>if n*s≤16777216∧z.length=s then some (.bslice s z n l) else none
  | _=>none
 | .load t a=>(T.size t).bind fun n=>(T.isAgg t).bind fun g=>(T.opd a).map (.load n (!g))
 | .store t a x=>(T.size t).bind fun n=>(T.opd a).bind fun a=>(T.opd x).map (.store n a)
 | .nilCheck x=>(T.opd x).map .nilchk
 | .binOp o t x y _=>(T.opd x).bind fun a=>(T.opd y).bind fun b=>
  match o with
  | .eql|.neq=>
   match T.P.underlying t with
   | some .bool=>some (.beq (match o with|.neq=>true|_=>false) a b)
   | some (.int _)|some .string=>some (.bin o a b)
   | some d=>
    match nilFits d y with
    | some c=>some (.isnil c (match o with|.neq=>true|_=>false) a)
    | none=>if T.P.eqGuardType T.P.depth t=false∧T.isAgg t=some true then (T.shape 20 t).map fun s=>.acmp s (match o with|.neq=>true|_=>false) a b else none
   | none=>none
  | _=>some (.bin o a b)
 | .unOp o _ x=>(T.opd x).map (.un o)
 | .convert s d x=>
  match T.P.underlying s,T.P.underlying d with
  | some (.int _),some (.int k)=>(T.opd x).map (.conv k)
  | some .string,some .string=>(T.opd x).map .same
  | some .string,some (.slice e)=>if T.isU8 e then (T.opd x).map .bytes else none
  | some (.slice e),some .string=>if T.isU8 e then (T.opd x).map .string else none
  | _,_=>none
 | .makeInterface t x=>
  match T.P.underlying t with
  | some (.interface _)|none=>none
  | some _=>(T.tys t).bind fun k=>(T.opd x).map (.mkiface k)
 | .makeFunc (.func f) first caps=>(T.fns f).bind fun k=>(T.opds first.toList).bind fun a=>(T.opds caps.toList).map (.mkfn k a)
 | .makeSlice t l c=>
  match T.P.underlying t with
  | some (.slice e)=>(T.size e).bind fun s=>(T.bytes e).bind fun k=>(T.zero e).bind fun z=>(T.opd l).bind fun l=>(T.opd c).map (.mkslice s k z l)
  | _=>none
 | .slice t x lo hi mx=>
  match T.P.underlying t with
  | some (.slice e)=>(T.size e).bind fun s=>(T.opd x).bind fun x=>(T.odd lo).bind fun lo=>(T.odd hi).bind fun hi=>(T.odd mx).bind fun mx=>if mx.isSome&&hi.isNone then none else some (.slice s x lo hi mx)
  | some (.array m e)=>(T.size e).bind fun s=>(T.opd x).bind fun x=>(T.odd lo).bind fun lo=>(T.odd hi).bind fun hi=>(T.odd mx).bind fun mx=>if mx.isSome&&hi.isNone then none else some (.slicea s m x lo hi mx)
  | some .string=>if mx.isSome then none else (T.opd x).bind fun x=>(T.odd lo).bind fun lo=>(T.odd hi).map (.substr x lo)
  | _=>none
 | .fieldAddr s x f=>(T.fieldOf s f).bind fun f=>(T.size f.type).bind fun n=>if n=0 then none else (T.opd x).map fun x=>.fa x f.offset
 | .field s x f=>(T.fieldOf s f).bind fun f=>(T.size f.type).bind fun n=>(T.isAgg f.type).bind fun g=>(T.opd x).map fun x=>.fld x f.offset n (!g)
 | .indexAddr t x i=>
  match T.P.underlying t with
  | some (.slice e)=>(T.size e).bind fun s=>(T.opd x).bind fun x=>(T.opd i).map (.ia s x)
  | some (.array n e)=>(T.size e).bind fun s=>(T.opd x).bind fun x=>(T.opd i).map (.iaa s n x)
  | _=>none
 | .index t x i=>
  match T.P.underlying t with
  | some .string=>(T.opd x).bind fun x=>(T.opd i).map (.chr x)
  | some (.array n e)=>(T.size e).bind fun s=>(T.isAgg e).bind fun g=>(T.opd x).bind fun x=>(T.opd i).map (.idx s n (!g) x)
  | _=>none
 | .extract t i=>(T.opd t).map (.ext · i)
 | .makeMap t r=>match T.P.underlying t with|some (.map _ _)=>(T.odd r).map .mkmap|_=>none
 | .lookup t x i ok=>
  match T.P.underlying t with
  | some (.map k e)=>(T.keyC k).bind fun c=>(T.zeroW e).bind fun z=>(T.opd x).bind fun a=>(T.opd i).map (.mget c z ok a)
  | _=>none
 | .mapUpdate t m k x|.insert t m k x=>
  match T.P.underlying t with
  | some (.map kt _)=>(T.keyC kt).bind fun c=>(T.opd m).bind fun a=>(T.opd k).bind fun b=>(T.opd x).map (.mset c a b)
  | _=>none
 | .range t x=>
  match T.P.underlying t with
  | some .string=>(T.opd x).map .srange
  | some (.map _ _)=>(T.opd x).map .mrange
  | _=>none
 | .next x true=>(T.opd x).map .snext
 | .next x false=>(T.opd x).map .mnext
 | .entry x=>(T.opd x).map .mentry
 | .mapEntry t m k=>
  match T.P.underlying t with
  | some (.map kt e)=>(T.keyC kt).bind fun c=>(T.zeroW e).bind fun z=>(T.opd m).bind fun a=>(T.opd k).map (.mapent c z a)
  | _=>none
 | .entryStore _ m st x=>(T.opd m).bind fun a=>(T.opd st).bind fun b=>(T.opd x).map (.entstore a b)
 | .call c=>
  match c.callee with
  | .builtin b=>T.builtin b c.argTypes.toList c.args.toList
  | .value (.func f)=>(T.fns f).bind fun k=>(T.opds c.args.toList).map (.call (.fn k))
  | .value f=>(T.opd f).bind fun f=>(T.opds c.args.toList).map (.call (.dyn f))
  | .invoke r name=>(T.opd r).bind fun x=>(T.opds c.args.toList).map (.call (.meth x (T.meths name)))
 | _=>none
def xkind (fn:Func):Option Nat:=if fn.body.isNone&&fn.origin == "" then (if fn.name == "internal/bytealg.CountString" then some 0 else if fn.name == "internal/bytealg.IndexByteString" then some 1 else none) else none
def xop:Op→Option AOp
 | .call c=>
  match c.callee,c.args.toList with
  | .value (.func f),[x,y]=>(T.xk f).bind fun k=>(T.opd x).bind fun a=>(T.opd y).map (.xfn k a)
  | _,_=>none
 | _=>none
def deps (o:Oper):List Nat:=(o.after.toList.filter fun e=>Region.binds .any e).map (·.on)
def isFnCall:Op→Bool
 | .call c=>(match c.callee with|.value _=>true|.invoke _ _=>true|_=>false)
 | _=>false
def oper (ntmps:Nat) (ops:Array Oper) (draw:Bool) (i:Nat) (o:Oper):Option AI:=
 (some (match T.op o.op with|some a=>a|none=>(T.xop o.op).getD .no)).bind fun a=>
 (match o.guard with
  | none=>some none
  | some (j,want)=>((ops[j]?).bind (·.dst)).map fun t=>some (t,want)).bind fun g=>
 if (match o.dst with|some d=>Nat.blt d ntmps|none=>true)&&(deps o).all (Nat.blt · i)&&(!a.isCall||isFnCall o.op) then some { dst:=o.dst,op:=a,guard:=g,anc:=if draw then deps o else [] } else none
def opers (ntmps:Nat) (ops:Array Oper) (draw:Bool):Nat→List Oper→Option (List AI)
 | _,[]=>some []
 | i,o::r=>(T.oper ntmps ops draw i o).bind fun a=>(opers ntmps ops draw (i+1) r).bind fun l=>some (a::l)
def code (ntmps:Nat) (kills:List (List Nat)):Code→Option AC
 | .skip=>some .skip
 | .region id ops draw=>(T.opers ntmps ops draw 0 ops.toList).map fun l=>.ops draw l (kills.getD id [])
 | .seq a b=>(code ntmps kills a).bind fun a=>(code ntmps kills b).map (.seq a)
 | .cond c a b=>(T.opd c).bind fun c=>(code ntmps kills a).bind fun a=>(code ntmps kills b).map (.cond c a)
 | .block id a=>(code ntmps kills a).map (.block id)
 | .loop a=>(code ntmps kills a).map .loop
 | .rangeFunc g ps a b=>(T.opd g).bind fun g=>(code ntmps kills a).bind fun a=>(code ntmps kills b).map (.range g ps.toList a)
 | .exit id=>some (.exit id)
 | .ret=>some .ret
 | .scope c=>code ntmps kills c
 | .label _=>some .skip
 | _=>some .no
def res:ResultVar→Option ARes
 | .tmp t=>some (.t t)
 | .cell t ty=>(T.size ty).bind fun n=>(T.isAgg ty).map fun g=>.cell t n (!g)
def ress:List ResultVar→Option (List ARes)
 | []=>some []
 | r::l=>(T.res r).bind fun a=>(ress l).bind fun b=>some (a::b)
def func (kills:List (List Nat)) (fn:Func):Option AFunc:=
 fn.body.bind fun c=>(T.code fn.ntmps kills c).bind fun b=>(T.ress fn.results.toList).bind fun rs=>
 if fn.params.size+fn.nfree≤fn.ntmps∧(fn.name == "runtime.NumGoroutine")=false then some { ntmps:=fn.ntmps,nargs:=fn.params.size+fn.nfree,kills,results:=rs,body:=b } else none
end Tr
end Go.Proofs.YtigdhgbkgfagiaaGreat
namespace Go.Proofs.YtigdhgbkgfagiaaGreat
structure Nums where
 ν:Nat→Option FuncId
 τ:Nat→Option TypeId
 κ:Nat→Code→AC→Prop
def Room (w:World) (b m:Nat):Prop:=∃(cells:Array Value) (T:TypeId) (fz:Nat×Nat),w.heap[b]?=some (.cells cells T fz)∧m≤cells.size∧∀k,k < m→¬(fz.1≤k∧k < fz.2)
inductive Rel (N:Nums) (w:World) (S:Nat→Prop):(Nat→Option Nat)→V→Value→Prop where
 | int (β:Nat→Option Nat) (k:IntKind) (n:Int):Rel N w S β (.int k n) (.int k n)
 | bool (β:Nat→Option Nat) (b:Bool):Rel N w S β (.bool b) (.bool b)
 | str (β:Nat→Option Nat) (s:ByteArray):Rel N w S β (.str s.data.toList) (.string s)
 | agg (β:Nat→Option Nat) (cs:List V) (ys:Array Value) (hl:ys.size=cs.length) (h1:∀(i:Nat) (y:Value),ys[i]?=some y→y.oneCell'=true) (h:∀(i:Nat) (c:V) (y:Value),cs[i]?=some c→ys[i]?=some y→Rel N w S β c y):Rel N w S β (.agg cs) (.agg ys)
 | lst (β:Nat→Option Nat) (size:Nat) (rows:List (List V)) (cap:Option Nat) (a:Option Addr) (c:Nat) (b off:Nat) (ys:Nat→Nat→Value)
     (hc:∀k,cap=some k→c=k) (hlc:rows.length≤c) (ha:0 < rows.length→a=some ⟨b,off,none⟩∧S b) (hn:a=none→c=0)
     (hr:∀(i:Nat) (row:List V),rows[i]?=some row→row.length=size)
     (hy:∀(i:Nat) (row:List V) (j:Nat) (x:V),rows[i]?=some row→row[j]?=some x→w.cell? ⟨b,off+i*size+j,none⟩=some (ys i j)∧(ys i j).oneCell'=true)
     (h:∀(i:Nat) (row:List V) (j:Nat) (x:V),rows[i]?=some row→row[j]?=some x→Rel N w S (fun _=>none) x (ys i j)) (hz:(size=0→rows.length=0→a=none)∧(size=1000003→rows.length=0→a≠none)):Rel N w S β (.lst size rows cap) (.slice a rows.length c)
 | iptr (β:Nat→Option Nat) (size:Nat) (rows:List (List V)) (i o:Nat) (b off:Nat) (ys:Nat→Nat→Value) (hS:S b)
     (hr:∀(i:Nat) (row:List V),rows[i]?=some row→row.length=size)
     (hy:∀(i:Nat) (row:List V) (j:Nat) (x:V),rows[i]?=some row→row[j]?=some x→w.cell? ⟨b,off+i*size+j,none⟩=some (ys i j)∧(ys i j).oneCell'=true)
     (h:∀(i:Nat) (row:List V) (j:Nat) (x:V),rows[i]?=some row→row[j]?=some x→Rel N w S (fun _=>none) x (ys i j)):Rel N w S β (.iptr size rows i o) (.pointer (some ⟨b,off+i*size+o,none⟩))
 | ref (β:Nat→Option Nat) (a size off len:Nat) (cap:Option Nat) (b:Nat) (x:Option Addr) (c:Nat) (hb:β a=some b) (hc:∀k,cap=some k→c=k) (hlc:len≤c)
     (hx:c=0∨x=some ⟨b,off*size,none⟩) (hm:c≠0→Room w b ((off+c)*size)) (hnn:x≠none):Rel N w S β (.ref a size off len cap) (.slice x len c)
 | ptr (β:Nat→Option Nat) (a size i o:Nat) (b:Nat) (hb:β a=some b):Rel N w S β (.ptr a size i o) (.pointer (some ⟨b,i*size+o,none⟩))
 | nilp (β:Nat→Option Nat):Rel N w S β .nilp (.pointer none)
 | fn (β:Nat→Option Nat) (f:Nat) (fid:FuncId) (hf:N.ν f=some fid) (first caps:List V) (ys zs:Array Value) (h1:ys.size=first.length) (h2:zs.size=caps.length)
     (hy:∀(i:Nat) (c:V) (y:Value),first[i]?=some c→ys[i]?=some y→Rel N w S β c y) (hz:∀(i:Nat) (c:V) (y:Value),caps[i]?=some c→zs[i]?=some y→Rel N w S β c y):Rel N w S β (.fn f first caps) (.func (.func fid) ys zs)
 | nilf (β:Nat→Option Nat):Rel N w S β .nilf .nilFunc
 | iface (β:Nat→Option Nat) (t:Nat) (T:TypeId) (ht:N.τ t=some T) (v:V) (y:Value) (h:Rel N w S β v y):Rel N w S β (.iface t v) (.iface T y)
 | nili (β:Nat→Option Nat):Rel N w S β .nili .nilIface
 | tup (β:Nat→Option Nat) (cs:List V) (ys:Array Value) (hl:ys.size=cs.length) (h:∀(i:Nat) (c:V) (y:Value),cs[i]?=some c→ys[i]?=some y→Rel N w S β c y):Rel N w S β (.tup cs) (.tuple ys)
 | bot (β:Nat→Option Nat) (y:Value) (hy:y.oneCell'=true):Rel N w S β .bot y
 | yld (β:Nat→Option Nat) (a b:Nat) (hb:β a=some b):Rel N w S β (.yld a) (.func (.yield b) #[] #[])
 | mapp (β:Nat→Option Nat) (a b:Nat) (hb:β a=some b):Rel N w S β (.mapp a) (.map (some b))
 | nilm (β:Nat→Option Nat):Rel N w S β .nilm (.map none)
theorem cell_same {w w':World} {b:Nat} (h:w'.heap[b]?=w.heap[b]?) (o:Nat):w'.cell? ⟨b,o,none⟩=w.cell? ⟨b,o,none⟩:=by
 unfold World.cell?;simp only;rw [h]
theorem Rel.mono {N:Nums} {w w':World} {S S':Nat→Prop} (hS:∀b,S b→S' b) (hw:∀b,S b→w'.heap[b]?=w.heap[b]?) (hm:∀b m,Room w b m→Room w' b m) {β:Nat→Option Nat} {v:V} {x:Value} (h:Rel N w S β v x) :
    ∀{β':Nat→Option Nat},(∀a b,β a=some b→β' a=some b)→Rel N w' S' β' v x:=by
 induction h with
 | int β k n=>exact fun _=>.int _ k n
 | bool β b=>exact fun _=>.bool _ b
 | str β s=>exact fun _=>.str _ s
 | agg β cs ys hl h1 h ih=>exact fun hb=>.agg _ cs ys hl h1 fun i c y hc hy=>ih i c y hc hy hb
 | lst β size rows cap a c b off ys hc hlc ha hn hr hy h hz ih=>
  refine fun _=>.lst _ size rows cap a c b off ys hc hlc (fun h0=>⟨(ha h0).1,hS _ (ha h0).2⟩) hn hr (fun i row j x h1 h2=>?_) (fun i row j x h1 h2=>ih i row j x h1 h2 (fun _ _ h=>h)) hz
  have h0:0 < rows.length:=by have:=(List.getElem?_eq_some_iff.1 h1).1;omega
  rw [cell_same (hw b (ha h0).2)]
  exact hy i row j x h1 h2
 | iptr β size rows i o b off ys hSb hr hy h ih=>
  refine fun _=>.iptr _ size rows i o b off ys (hS _ hSb) hr (fun i row j x h1 h2=>?_) (fun i row j x h1 h2=>ih i row j x h1 h2 (fun _ _ h=>h))
  rw [cell_same (hw b hSb)]
  exact hy i row j x h1 h2
 | ref β a size off len cap b x c hb hc hlc hx hr hnn=>exact fun hβ=>.ref _ a size off len cap b x c (hβ _ _ hb) hc hlc hx (fun h0=>hm _ _ (hr h0)) hnn
 | ptr β a size i o b hb=>exact fun hβ=>.ptr _ a size i o b (hβ _ _ hb)
 | nilp β=>exact fun _=>.nilp _
 | fn β f fid hf first caps ys zs h1 h2 hy hz ih1 ih2=>exact fun hβ=>.fn _ f fid hf first caps ys zs h1 h2 (fun i c y hc hy=>ih1 i c y hc hy hβ) (fun i c y hc hy=>ih2 i c y hc hy hβ)
 | nilf β=>exact fun _=>.nilf _
 | iface β t T ht v y h ih=>exact fun hβ=>.iface _ t T ht v y (ih hβ)
 | nili β=>exact fun _=>.nili _
 | tup β cs ys hl h ih=>exact fun hb=>.tup _ cs ys hl fun i c y hc hy=>ih i c y hc hy hb
 | bot β y hy=>exact fun _=>.bot _ y hy
 | yld β a b hb=>exact fun hβ=>.yld _ a b (hβ _ _ hb)
 | mapp β a b hb=>exact fun hβ=>.mapp _ a b (hβ _ _ hb)
 | nilm β=>exact fun _=>.nilm _
theorem Rel.one {N:Nums} {w:World} {S:Nat→Prop} {β:Nat→Option Nat} {v:V} {x:Value} (h:Rel N w S β v x) (hv:v.one=true):x.oneCell'=true:=by
 cases h <;> first|rfl|assumption|(simp [V.one] at hv)
theorem Rel.cells {N:Nums} {w:World} {S:Nat→Prop} {β:Nat→Option Nat} {v:V} {x:Value} (h:Rel N w S β v x) (hv:v.isVal=true) :
    x.cells.size=v.cells.length∧(∀(i:Nat) (y:Value),x.cells[i]?=some y→y.oneCell'=true)∧∀(i:Nat) (c:V) (y:Value),v.cells[i]?=some c→x.cells[i]?=some y→Rel N w S β c y:=by
 have hone:∀(v:V) (x:Value),x.oneCell'=true→x.cells=#[x]→v.cells=[v]→Rel N w S β v x→x.cells.size=v.cells.length∧(∀(i:Nat) (y:Value),x.cells[i]?=some y→y.oneCell'=true)∧∀(i:Nat) (c:V) (y:Value),v.cells[i]?=some c→x.cells[i]?=some y→Rel N w S β c y:=by
  intro v x h1 h2 h3 h4
  rw [h2,h3]
  refine ⟨rfl,fun i y hy=>?_,fun i c y hc hy=>?_⟩
  ·cases i with
   | zero=>simp at hy;subst hy;exact h1
   | succ i=>simp at hy
  ·cases i with
   | zero=>simp at hc hy;subst hc;subst hy;exact h4
   | succ i=>simp at hc
 cases h with
 | agg _ cs ys hl h1 h=>exact ⟨by simpa [Value.cells,V.cells] using hl,by simpa [Value.cells] using h1,by simpa [Value.cells,V.cells] using h⟩
 | tup _ cs ys hl h=>simp [V.isVal] at hv
 | bot _ _ hy=>exact hone _ _ hy (by cases x <;> first|rfl|(simp [Value.oneCell'] at hy)) rfl (.bot _ _ hy)
 | int _ k n=>exact hone _ _ rfl rfl rfl (.int _ k n)
 | bool _ b=>exact hone _ _ rfl rfl rfl (.bool _ b)
 | str _ b=>exact hone _ _ rfl rfl rfl (.str _ b)
 | lst _ size rows cap a c b off ys hc hlc ha hn hr hy h hz=>exact hone _ _ rfl rfl rfl (.lst _ size rows cap a c b off ys hc hlc ha hn hr hy h hz)
 | iptr _ size rows i o b off ys hS hr hy h=>exact hone _ _ rfl rfl rfl (.iptr _ size rows i o b off ys hS hr hy h)
 | ref _ a size off len cap b x c hb hc hlc hx hm hnn=>exact hone _ _ rfl rfl rfl (.ref _ a size off len cap b x c hb hc hlc hx hm hnn)
 | ptr _ a size i o b hb=>exact hone _ _ rfl rfl rfl (.ptr _ a size i o b hb)
 | nilp=>exact hone _ _ rfl rfl rfl (.nilp _)
 | fn _ f fid hf first caps ys zs h1 h2 hy hz=>exact hone _ _ rfl rfl rfl (.fn _ f fid hf first caps ys zs h1 h2 hy hz)
 | nilf=>exact hone _ _ rfl rfl rfl (.nilf _)
 | iface _ t T ht v y h=>exact hone _ _ rfl rfl rfl (.iface _ t T ht v y h)
 | nili=>exact hone _ _ rfl rfl rfl (.nili _)
 | yld _ a b hb=>exact hone _ _ rfl rfl rfl (.yld _ a b hb)
 | mapp _ a b hb=>exact hone _ _ rfl rfl rfl (.mapp _ a b hb)
 | nilm=>exact hone _ _ rfl rfl rfl (.nilm _)
def JumpR:AC→Code→Prop
 | .ret,c=>c=.ret
 | .exit id,c=>c=.exit id
 | _,_=>False
def BlkR (N:Nums) (w:World) (S:Nat→Prop) (β:Nat→Option Nat):Blk→Nat→Prop
 | .arr size rows,b=>∃(cells:Array Value) (T:TypeId) (fz:Nat×Nat),w.heap[b]?=some (.cells cells T fz)∧(∀o,o < rows.length*size→o < cells.size∧¬(fz.1≤o∧o < fz.2))∧
     (∀(i:Nat) (row:List V),rows[i]?=some row→row.length=size)∧
     ∀(i:Nat) (row:List V) (j:Nat) (x:V),rows[i]?=some row→row[j]?=some x→∃y,cells[i*size+j]?=some y∧y.oneCell'=true∧Rel N w S β x y
 | .loop nt E ps ad body,b=>∃r:Loop,w.heap[b]?=some (.loop r)∧r.state=.ready∧r.pending=none∧N.κ nt r.assign ad∧N.κ nt r.body body∧r.params.toList=ps∧r.tmps.size=nt∧
     ∀(t:Nat) (v:V),Env.get E t=some v→∃x,r.tmps[t]?=some x∧Rel N w S β v x
 | .stop j,b=>∃r:Loop,w.heap[b]?=some (.loop r)∧r.state=.done∧∃c,r.pending=some c∧JumpR j c
 | .map es bs clk,b=>∃(a:Array MapEntry),w.heap[b]?=some (.map a clk)∧a.size=es.length∧a.toList.map (·.born)=bs∧
     ∀(i:Nat) (p:V×V) (e:MapEntry),es[i]?=some p→a[i]?=some e→Rel N w S β p.1 e.key∧Rel N w S β p.2 e.val
 | .iter m since seen last,b=>∃q,w.heap[b]?=some (.mapIter q since seen.toArray last)∧match m with|none=>q=none|some a=>∃c,β a=some c∧q=some c
 | .siter s pos,b=>∃t:ByteArray,w.heap[b]?=some (.stringIter t pos)∧t.data.toList=s
 | .junk,b=>∃o,w.heap[b]?=some o∧∀d,o≠.deferred d
theorem BlkR.mono {N:Nums} {w w':World} {S S':Nat→Prop} {β β':Nat→Option Nat} {k:Blk} {b:Nat} (h:BlkR N w S β k b) (hb:w'.heap[b]?=w.heap[b]?) (hS:∀b,S b→S' b) (hw:∀b,S b→w'.heap[b]?=w.heap[b]?) (hm:∀b m,Room w b m→Room w' b m)
    (hβ:∀a b,β a=some b→β' a=some b):BlkR N w' S' β' k b:=by
 cases k with
 | arr size rows=>
  obtain ⟨cells,T,fz,h1,h2,h3,h4⟩:=h
  exact ⟨cells,T,fz,hb.trans h1,h2,h3,fun i row j x hi hj=>let ⟨y,hy,h1,hr⟩:=h4 i row j x hi hj;⟨y,hy,h1,hr.mono hS hw hm hβ⟩⟩
 | loop nt E ps ad body=>
  obtain ⟨r,h1,h2,h3,h4,h5,h6,h7,h8⟩:=h
  exact ⟨r,hb.trans h1,h2,h3,h4,h5,h6,h7,fun t v hv=>let ⟨x,hx,hr⟩:=h8 t v hv;⟨x,hx,hr.mono hS hw hm hβ⟩⟩
 | stop j=>
  obtain ⟨r,h1,h2⟩:=h
  exact ⟨r,hb.trans h1,h2⟩
 | map es bs clk=>
  obtain ⟨a,h1,h2,hbs,h3⟩:=h
  exact ⟨a,hb.trans h1,h2,hbs,fun i p e hi he=>⟨(h3 i p e hi he).1.mono hS hw hm hβ,(h3 i p e hi he).2.mono hS hw hm hβ⟩⟩
 | iter m since seen last=>
  obtain ⟨q,h1,h2⟩:=h
  refine ⟨q,hb.trans h1,?_⟩
  cases m with
  | none=>exact h2
  | some a=>obtain ⟨c,h3,h4⟩:=h2;exact ⟨c,hβ _ _ h3,h4⟩
 | siter s pos=>
  obtain ⟨t,h1,h2⟩:=h
  exact ⟨t,hb.trans h1,h2⟩
 | junk=>
  obtain ⟨o,h1,h2⟩:=h
  exact ⟨o,hb.trans h1,h2⟩
theorem BlkR.obj {N:Nums} {w:World} {S:Nat→Prop} {β:Nat→Option Nat} {k:Blk} {b:Nat} (h:BlkR N w S β k b):∃o,w.heap[b]?=some o∧∀d,o≠.deferred d:=by
 cases k with
 | arr size rows=>obtain ⟨cells,T,fz,h1,_⟩:=h;exact ⟨_,h1,fun d e=>by cases e⟩
 | loop nt E ps ad body=>obtain ⟨r,h1,_⟩:=h;exact ⟨_,h1,fun d e=>by cases e⟩
 | stop j=>obtain ⟨r,h1,_⟩:=h;exact ⟨_,h1,fun d e=>by cases e⟩
 | map es bs clk=>obtain ⟨a,h1,_⟩:=h;exact ⟨_,h1,fun d e=>by cases e⟩
 | iter m since seen last=>obtain ⟨q,h1,_⟩:=h;exact ⟨_,h1,fun d e=>by cases e⟩
 | siter s pos=>obtain ⟨t,h1,_⟩:=h;exact ⟨_,h1,fun d e=>by cases e⟩
 | junk=>exact h
def Live (β:Nat→Option Nat) (h:Nat→Option Blk) (b:Nat):Prop:=∃a,h a≠none∧β a=some b
structure Imm (A:Nat→Prop) (w:World) (β:Nat→Option Nat) (h:Nat→Option Blk) (b:Nat):Prop where
 lt:b < w.heap.size
 free:¬Live β h b
 al:A b
 arr:∃(cells:Array Value) (T:TypeId) (fz:Nat×Nat),w.heap[b]?=some (.cells cells T fz)
structure HeapR (A:Nat→Prop) (N:Nums) (w:World) (β:Nat→Option Nat) (h:Nat→Option Blk):Prop where
 at':∀a k,h a=some k→∃b,β a=some b∧b < w.heap.size∧BlkR N w (Imm A w β h) β k b
 inj:∀a a' b,h a≠none→h a'≠none→β a=some b→β a'=some b→a=a'
structure Frm (L:Nat→Prop) (w w':World):Prop where
 os:w'.os=w.os
 tape:w'.tape=w.tape
 output:w'.output=w.output
 size:w.heap.size≤w'.heap.size
 block:∀b,b < w.heap.size→¬L b→w'.heap[b]?=w.heap[b]?
 room:∀b m,Room w b m→Room w' b m
theorem Frm.refl (L:Nat→Prop) (w:World):Frm L w w:=⟨rfl,rfl,rfl,Nat.le_refl _,fun _ _ _=>rfl,fun _ _ h=>h⟩
theorem Frm.trans {L L':Nat→Prop} {a b c:World} (h:Frm L a b) (k:Frm L' b c) (hL:∀x,L' x→a.heap.size≤x∨L x):Frm L a c:=
 ⟨k.os.trans h.os,k.tape.trans h.tape,k.output.trans h.output,Nat.le_trans h.size k.size,fun x hx hn=>(k.block x (Nat.lt_of_lt_of_le hx h.size) (fun hl=>(hL x hl).elim (by omega) hn)).trans (h.block x hx hn),fun b m hb=>k.room b m (h.room b m hb)⟩
def Eff.heap (e:Eff) (n:Nat) (h:Nat→Option Blk) (a:Nat):Option Blk:=
 if n≤a∧a < n+e.new.length then e.new[a - n]? else (match e.upd.find? (fun p=>p.1 == a) with|some p=>p.2|none=>h a)
def EffOk (A:Nat→Prop) (N:Nums) (w:World) (β:Nat→Option Nat) (h:Nat→Option Blk) (n:Nat) (e:Eff) (x:Value) (w':World):Prop:=
 ∃β':Nat→Option Nat,(∀a,¬(n≤a∧a < n+e.new.length)→β' a=β a)∧HeapR A N w' β' (e.heap n h)∧Rel N w' (Imm A w' β' (e.heap n h)) β' e.v x∧
  (∀b,Live β' (e.heap n h) b→w.heap.size≤b∨Live β h b)∧Frm (Live β h) w w'
theorem Eff.heap_none {e:Eff} {n:Nat} {h:Nat→Option Blk} (h1:e.upd=[]) (h2:e.new=[]):e.heap n h=h:=by
 funext a;simp [Eff.heap,h1,h2];intro h3 h4;omega
theorem effOk_same {A:Nat→Prop} {N:Nums} {w:World} {β:Nat→Option Nat} {h:Nat→Option Blk} {n:Nat} {e:Eff} {x:Value} {w':World} (hh:HeapR A N w β h) (h1:e.upd=[]) (h2:e.new=[]) (hw:w'.heap=w.heap) (ho:w'.os=w.os) (ht:w'.tape=w.tape) (hp:w'.output=w.output)
    (hr:Rel N w (Imm A w β h) β e.v x):EffOk A N w β h n e x w':=by
 have hi:∀b,Imm A w β h b→Imm A w' β h b:=fun b hb=>⟨by rw [hw];exact hb.lt,hb.free,hb.al,by rw [hw];exact hb.arr⟩
 have hroom:∀b m,Room w b m→Room w' b m:=fun b m hm=>by unfold Room;rw [hw];exact hm
 refine ⟨β,fun _ _=>rfl,?_,?_,?_,⟨ho,ht,hp,by rw [hw];exact Nat.le_refl _,fun b _ _=>by rw [hw],hroom⟩⟩
 ·rw [Eff.heap_none h1 h2]
  exact ⟨fun a k hk=>let ⟨b,h3,h4,h5⟩:=hh.at' a k hk;⟨b,h3,by rw [hw];exact h4,h5.mono (by rw [hw]) hi (fun _ _=>by rw [hw]) hroom (fun _ _ h=>h)⟩,hh.inj⟩
 ·rw [Eff.heap_none h1 h2]
  exact hr.mono hi (fun _ _=>by rw [hw]) hroom (fun _ _ h=>h)
 ·rw [Eff.heap_none h1 h2]
  exact fun b hb=>.inr hb
theorem effOk_new {A:Nat→Prop} {N:Nums} {w:World} {β:Nat→Option Nat} {h:Nat→Option Blk} {n:Nat} {e:Eff} {x:Value} {w':World} {o:Obj} {k:Blk} (hh:HeapR A N w β h) (hn:β n=none) (hhn:h n=none) (h1:e.upd=[]) (h2:e.new=[k])
    (hw:w'.heap=w.heap.push o) (ho:w'.os=w.os) (ht:w'.tape=w.tape) (hp:w'.output=w.output)
    (hk:∀(β':Nat→Option Nat) (S:Nat→Prop),(∀a b,β a=some b→β' a=some b)→β' n=some w.heap.size→(∀b,Imm A w β h b→S b)→BlkR N w' S β' k w.heap.size)
    (hr:∀(β':Nat→Option Nat) (S:Nat→Prop),(∀a b,β a=some b→β' a=some b)→β' n=some w.heap.size→(∀b,Imm A w β h b→S b)→Rel N w' S β' e.v x):EffOk A N w β h n e x w':=by
 have hβ:∀a b,β a=some b→(fun a=>if a=n then some w.heap.size else β a) a=some b:=fun a b hb=>by
  by_cases ha:a=n
  ·subst ha;rw [hn] at hb;cases hb
  ·simp [ha,hb]
 have hheap:∀a,e.heap n h a=if a=n then some k else h a:=fun a=>by
  unfold Eff.heap
  rw [h1,h2]
  by_cases ha:a=n
  ·subst ha;simp
  ·rw [if_neg (by simp;omega),if_neg ha];rfl
 have hold:∀b,b < w.heap.size→w'.heap[b]?=w.heap[b]?:=fun b hb=>by rw [hw,Array.getElem?_push,if_neg (by omega)]
 have hroom:∀b m,Room w b m→Room w' b m:=fun b m hm=>by
  obtain ⟨cells,T,fz,h1,h2⟩:=hm
  exact ⟨cells,T,fz,by rw [hold b (Array.getElem?_eq_some_iff.1 h1).1];exact h1,h2⟩
 have hlive:∀b,Live (fun a=>if a=n then some w.heap.size else β a) (e.heap n h) b→b=w.heap.size∨Live β h b:=fun b ⟨a,ha,hb⟩=>by
  rw [hheap] at ha
  by_cases han:a=n
  ·simp [han] at hb;exact .inl hb.symm
  ·simp only [han,if_false] at ha hb;exact .inr ⟨a,ha,hb⟩
 have himm:∀b,Imm A w β h b→Imm A w' (fun a=>if a=n then some w.heap.size else β a) (e.heap n h) b:=fun b hb=>
  ⟨by rw [hw];simp;have:=hb.lt;omega,fun hl=>(hlive b hl).elim (fun e=>by have:=hb.lt;omega) hb.free,hb.al,by rw [hold b hb.lt];exact hb.arr⟩
 refine ⟨fun a=>if a=n then some w.heap.size else β a,fun a ha=>?_,⟨fun a k' hk'=>?_,fun a a' b ha ha' hb hb'=>?_⟩,hr _ _ hβ (by simp) himm,fun b hb=>(hlive b hb).elim (fun e=>.inl (by omega)) .inr,⟨ho,ht,hp,by rw [hw];simp,fun b hb _=>hold b hb,hroom⟩⟩
 ·have hne:a≠n:=fun e=>ha ⟨by omega,by rw [h2];simp;omega⟩
  simp [hne]
 ·rw [hheap] at hk'
  by_cases ha:a=n
  ·rw [if_pos ha] at hk'
   simp only [Option.some.injEq] at hk'
   subst hk';subst ha
   exact ⟨w.heap.size,by simp,by rw [hw];simp,hk _ _ hβ (by simp) himm⟩
  ·rw [if_neg ha] at hk'
   obtain ⟨b,h3,h4,h5⟩:=hh.at' a k' hk'
   exact ⟨b,by simp [ha,h3],by rw [hw];simp;omega,h5.mono (hold b h4) himm (fun b hb=>hold b hb.lt) hroom hβ⟩
 ·rw [hheap] at ha ha'
  have hlt:∀a b,a≠n→h a≠none→β a=some b→b < w.heap.size:=fun a b hne hl hb=>by
   obtain ⟨k',hk'⟩:=Option.ne_none_iff_exists'.1 hl
   obtain ⟨b',h3,h4,_⟩:=hh.at' a k' hk'
   rw [h3] at hb;cases hb;exact h4
  by_cases e1:a=n <;> by_cases e2:a'=n
  ·rw [e1,e2]
  ·simp [e1] at hb;simp only [e2,if_false] at ha' hb';have:=hlt a' b e2 ha' hb';omega
  ·simp [e2] at hb';simp only [e1,if_false] at ha hb;have:=hlt a b e1 ha hb;omega
  ·simp only [e1,e2,if_false] at ha ha' hb hb';exact hh.inj a a' b ha ha' hb hb'
theorem effOk_upd {A:Nat→Prop} {N:Nums} {w:World} {β:Nat→Option Nat} {h:Nat→Option Blk} {n:Nat} {e:Eff} {x:Value} {w':World} {a b:Nat} {k k':Blk} (hh:HeapR A N w β h) (ha:h a=some k) (hb:β a=some b) (h1:e.upd=[(a,some k')]) (h2:e.new=[])
    (hw:∀c,c≠b→w'.heap[c]?=w.heap[c]?) (hroom:∀b m,Room w b m→Room w' b m) (hsz:w'.heap.size=w.heap.size) (ho:w'.os=w.os) (ht:w'.tape=w.tape) (hp:w'.output=w.output)
    (hk:∀(S:Nat→Prop),(∀c,Imm A w β h c→S c)→BlkR N w' S β k' b)
    (hr:∀(S:Nat→Prop),(∀c,Imm A w β h c→S c)→Rel N w' S β e.v x):EffOk A N w β h n e x w':=by
 have hheap:∀c,e.heap n h c=if c=a then some k' else h c:=fun c=>by
  unfold Eff.heap
  rw [h1,h2]
  rw [if_neg (by simp <;> omega)]
  by_cases hc:c=a
  ·subst hc;simp
  ·have:(a == c)=false:=by simp;exact fun e=>hc e.symm
   simp [this,hc]
 have hlive:∀c,Live β (e.heap n h) c→Live β h c:=fun c ⟨a',h3,h4⟩=>by
  rw [hheap] at h3
  by_cases hc:a'=a
  ·subst hc;exact ⟨a',by rw [ha];simp,h4⟩
  ·rw [if_neg hc] at h3;exact ⟨a',h3,h4⟩
 have hbl:Live β h b:=⟨a,by rw [ha];simp,hb⟩
 have himm:∀c,Imm A w β h c→Imm A w' β (e.heap n h) c:=fun c hc=>⟨by rw [hsz];exact hc.lt,fun hl=>hc.free (hlive c hl),hc.al,by rw [hw c (fun e=>by subst e;exact hc.free hbl)];exact hc.arr⟩
 have hold:∀c,Imm A w β h c→w'.heap[c]?=w.heap[c]?:=fun c hc=>hw c (fun e=>by subst e;exact hc.free hbl)
 refine ⟨β,fun _ _=>rfl,⟨fun a' k'' hk'=>?_,fun a1 a2 c h3 h4 h5 h6=>?_⟩,hr _ himm,fun c hc=>.inr (hlive c hc),⟨ho,ht,hp,by rw [hsz];exact Nat.le_refl _,fun c hc hn=>hw c (fun e=>by subst e;exact hn hbl),hroom⟩⟩
 ·rw [hheap] at hk'
  by_cases hc:a'=a
  ·rw [if_pos hc] at hk'
   simp only [Option.some.injEq] at hk'
   subst hk';subst hc
   obtain ⟨b',h3,h4,_⟩:=hh.at' a' k ha
   rw [hb] at h3;cases h3
   exact ⟨b,hb,by rw [hsz];exact h4,hk _ himm⟩
  ·rw [if_neg hc] at hk'
   obtain ⟨b',h3,h4,h5⟩:=hh.at' a' k'' hk'
   have hne:b'≠b:=fun e=>hc (hh.inj a' a b (by rw [hk'];simp) (by rw [ha];simp) (by rw [h3,e]) hb)
   exact ⟨b',h3,by rw [hsz];exact h4,h5.mono (hw b' hne) himm hold hroom (fun _ _ h=>h)⟩
 ·rw [hheap] at h3 h4
  have f:∀a',(if a'=a then some k' else h a')≠none→h a'≠none:=fun a' h=>by
   by_cases hc:a'=a
   ·rw [hc,ha];simp
   ·rwa [if_neg hc] at h
  exact hh.inj a1 a2 c (f _ h3) (f _ h4) h5 h6
theorem effOk_move {A:Nat→Prop} {N:Nums} {w:World} {β:Nat→Option Nat} {h:Nat→Option Blk} {n:Nat} {e:Eff} {x:Value} {w':World} {a b:Nat} {k k':Blk} (hh:HeapR A N w β h) (ha:h a=some k) (hb:β a=some b) (hn:β n=none) (hhn:h n=none) (h1:e.upd=[(a,none)]) (h2:e.new=[k'])
    (hw:∀c,c≠b→c < w.heap.size→w'.heap[c]?=w.heap[c]?) (hroom:∀b m,Room w b m→Room w' b m) (hsz:w.heap.size≤w'.heap.size) (ho:w'.os=w.os) (ht:w'.tape=w.tape) (hp:w'.output=w.output) (b':Nat) (hb':b'=b∨b'=w.heap.size∧w.heap.size < w'.heap.size)
    (hk:∀(β':Nat→Option Nat) (S:Nat→Prop),(∀a b,β a=some b→β' a=some b)→β' n=some b'→(∀b,Imm A w β h b→S b)→BlkR N w' S β' k' b')
    (hr:∀(β':Nat→Option Nat) (S:Nat→Prop),(∀a b,β a=some b→β' a=some b)→β' n=some b'→(∀b,Imm A w β h b→S b)→Rel N w' S β' e.v x):EffOk A N w β h n e x w':=by
 have hβ:∀a c,β a=some c→(fun a=>if a=n then some b' else β a) a=some c:=fun a c hc=>by
  by_cases han:a=n
  ·subst han;rw [hn] at hc;cases hc
  ·simp [han,hc]
 have hbw:b < w.heap.size:=by
  obtain ⟨b1,h3,h4,_⟩:=hh.at' a k ha
  rw [hb] at h3;cases h3;exact h4
 have hheap:∀c,e.heap n h c=if c=n then some k' else if c=a then none else h c:=fun c=>by
  unfold Eff.heap
  rw [h1,h2]
  by_cases hc:c=n
  ·subst hc;simp
  ·rw [if_neg (by simp;omega),if_neg hc]
   by_cases hca:c=a
   ·subst hca;simp
   ·have:(a == c)=false:=by simp;exact fun e=>hca e.symm
    simp [this,hca]
 have hbl:Live β h b:=⟨a,by rw [ha];simp,hb⟩
 have hlive:∀c,Live (fun a=>if a=n then some b' else β a) (e.heap n h) c→c=b'∨Live β h c:=fun c ⟨a',h3,h4⟩=>by
  rw [hheap] at h3
  by_cases hc:a'=n
  ·simp [hc] at h4;exact .inl h4.symm
  ·simp only [hc,if_false] at h3 h4
   by_cases hca:a'=a
   ·simp [hca] at h3
   ·rw [if_neg hca] at h3;exact .inr ⟨a',h3,h4⟩
 have himm:∀c,Imm A w β h c→Imm A w' (fun a=>if a=n then some b' else β a) (e.heap n h) c:=fun c hc=>
  ⟨by have:=hc.lt;omega,fun hl=>(hlive c hl).elim (fun e=>by
   rcases hb' with h3|h3
   ·rw [e,h3] at hc;exact hc.free hbl
   ·have:=hc.lt;omega) hc.free,hc.al,by rw [hw c (fun e=>by subst e;exact hc.free hbl) hc.lt];exact hc.arr⟩
 have hold:∀c,Imm A w β h c→w'.heap[c]?=w.heap[c]?:=fun c hc=>hw c (fun e=>by subst e;exact hc.free hbl) hc.lt
 have hother:∀a' c,a'≠a→h a'≠none→β a'=some c→c≠b'∧c < w.heap.size:=fun a' c hne hl hc=>by
  obtain ⟨k1,hk1⟩:=Option.ne_none_iff_exists'.1 hl
  obtain ⟨c',h3,h4,_⟩:=hh.at' a' k1 hk1
  rw [h3] at hc;cases hc
  refine ⟨fun e=>?_,h4⟩
  rcases hb' with h5|h5
  ·exact hne (hh.inj a' a c hl (by rw [ha];simp) h3 (by rw [hb,←h5,e]))
  ·omega
 refine ⟨fun a=>if a=n then some b' else β a,fun a ha=>?_,⟨fun a' k'' hk'=>?_,fun a1 a2 c h3 h4 h5 h6=>?_⟩,hr _ _ hβ (by simp) himm,fun c hc=>(hlive c hc).elim (fun e=>?_) .inr,⟨ho,ht,hp,hsz,fun c hc hn'=>hw c (fun e=>by subst e;exact hn' hbl) hc,hroom⟩⟩
 ·have hne:a≠n:=fun e=>ha ⟨by omega,by rw [h2];simp;omega⟩
  simp [hne]
 ·rw [hheap] at hk'
  by_cases hc:a'=n
  ·rw [if_pos hc] at hk'
   simp only [Option.some.injEq] at hk'
   subst hk';subst hc
   refine ⟨b',by simp,?_,hk _ _ hβ (by simp) himm⟩
   rcases hb' with h3|h3 <;> omega
  ·rw [if_neg hc] at hk'
   by_cases hca:a'=a
   ·rw [if_pos hca] at hk';cases hk'
   ·rw [if_neg hca] at hk'
    obtain ⟨c,h3,h4,h5⟩:=hh.at' a' k'' hk'
    obtain ⟨h6,h7⟩:=hother a' c hca (by rw [hk'];simp) h3
    have hcb:c≠b:=fun e=>hca (hh.inj a' a c (by rw [hk'];simp) (by rw [ha];simp) h3 (by rw [hb,e]))
    exact ⟨c,by simp [hc,h3],by omega,h5.mono (hw c hcb h7) himm hold hroom hβ⟩
 ·rw [hheap] at h3 h4
  by_cases e1:a1=n <;> by_cases e2:a2=n
  ·rw [e1,e2]
  ·simp [e1] at h5;simp only [e2,if_false] at h4 h6
   by_cases h7:a2=a
   ·simp [h7] at h4
   ·rw [if_neg h7] at h4;exact absurd h5.symm (hother a2 c h7 h4 h6).1
  ·simp [e2] at h6;simp only [e1,if_false] at h3 h5
   by_cases h7:a1=a
   ·simp [h7] at h3
   ·rw [if_neg h7] at h3;exact absurd h6.symm (hother a1 c h7 h3 h5).1
  ·simp only [e1,e2,if_false] at h3 h4 h5 h6
   by_cases h7:a1=a
   ·simp [h7] at h3
   ·by_cases h8:a2=a
    ·simp [h8] at h4
    ·rw [if_neg h7] at h3;rw [if_neg h8] at h4;exact hh.inj a1 a2 c h3 h4 h5 h6
 ·rcases hb' with h3|h3
  ·right;rw [e,h3];exact hbl
  ·left;omega
end Go.Proofs.YtigdhgbkgfagiaaGreat
namespace Go.Proofs.YtigdhgbkgfagiaaGreat
structure Ctx where
 T:Tr
 N:Nums
 G:Nat→Option V
 fns:∀f k,T.fns f=some k→N.ν k=some f
 tys:∀t k,T.tys t=some k→N.τ k=some t
 xks:∀f k,T.xk f=some k→∃fn,T.P.funcs[f]?=some fn∧Tr.xkind fn=some k
 mixed:T.P.follows .mixedOrders=true
 codes:∀n c x,N.κ n c x↔∃kills,T.code n kills c=some x
mutual
theorem V.of_rel {N:Nums} {w:World} {S:Nat→Prop} {β:Nat→Option Nat}:∀(x:Value) (v:V),V.of x=some v→Rel N w S β v x
 | .bool b,v,h=>by simp [V.of] at h;subst h;exact .bool _ b
 | .int k n,v,h=>by simp [V.of] at h;subst h;exact .int _ k n
 | .string s,v,h=>by simp [V.of] at h;subst h;exact .str _ s
 | .pointer none,v,h=>by simp [V.of] at h;subst h;exact .nilp _
 | .pointer (some a),v,h=>by simp [V.of] at h
 | .slice none 0 0,v,h=>by simp [V.of] at h;subst h;exact .lst _ 0 [] _ none 0 0 0 (fun _ _=>undef) (fun k hk=>by cases hk;rfl) (by simp) (fun h=>by simp at h) (fun _=>rfl) (fun i row h=>by simp at h) (fun i row j x h=>by simp at h) (fun i row j x h=>by simp at h) ⟨fun _ _=>rfl,fun h=>by cases h⟩
 | .slice none 0 (n+1),v,h=>by simp [V.of] at h
 | .slice none (n+1) c,v,h=>by simp [V.of] at h
 | .slice (some a) n c,v,h=>by simp [V.of] at h
 | .nilFunc,v,h=>by simp [V.of] at h;subst h;exact .nilf _
 | .nilIface,v,h=>by simp [V.of] at h;subst h;exact .nili _
 | .agg ⟨cs⟩,v,h=>by
  simp only [V.of,Option.map_eq_some_iff] at h
  obtain ⟨l,hl,rfl⟩:=h
  obtain ⟨h1,h2,h3⟩:=V.ofs_rel (N:=N) (w:=w) (S:=S) (β:=β) cs l hl
  exact .agg _ l _ h1 (fun i y hy=>h3 i y (by simpa using hy)) (fun i c y hc hy=>h2 i c y hc (by simpa using hy))
 | .float ..,v,h=>by simp [V.of] at h
 | .complex ..,v,h=>by simp [V.of] at h
 | .map none,v,h=>by simp [V.of] at h;subst h;exact .nilm _
 | .map (some _),v,h=>by simp [V.of] at h
 | .chan _,v,h=>by simp [V.of] at h
 | .func ..,v,h=>by simp [V.of] at h
 | .iface ..,v,h=>by simp [V.of] at h
 | .tuple _,v,h=>by simp [V.of] at h
theorem V.ofs_rel {N:Nums} {w:World} {S:Nat→Prop} {β:Nat→Option Nat}:∀(xs:List Value) (vs:List V),V.ofs xs=some vs→xs.length=vs.length∧(∀(i:Nat) (c:V) (y:Value),vs[i]?=some c→xs[i]?=some y→Rel N w S β c y)∧(∀(i:Nat) (y:Value),xs[i]?=some y→y.oneCell'=true)
 | [],vs,h=>by simp [V.ofs] at h;subst h;exact ⟨rfl,fun i c y h=>by simp at h,fun i y h=>by simp at h⟩
 | x::r,vs,h=>by
  simp only [V.ofs,Option.bind_eq_some_iff] at h
  obtain ⟨v,hv,l,hl,he⟩:=h
  split at he
  ·rename_i hone
   simp only [Option.some.injEq] at he
   subst he
   obtain ⟨h1,h2,h3⟩:=V.ofs_rel (N:=N) (w:=w) (S:=S) (β:=β) r l hl
   refine ⟨by simp [h1],fun i c y hc hy=>?_,fun i y hy=>?_⟩
   ·cases i with
    | zero=>simp at hc hy;subst hc;subst hy;exact V.of_rel x _ hv
    | succ i=>simp at hc hy;exact h2 i c y hc hy
   ·cases i with
    | zero=>simp at hy;subst hy;exact (V.of_rel (N:=N) (w:=w) (S:=S) (β:=β) x _ hv).one hone
    | succ i=>simp at hy;exact h3 i y hy
  ·cases he
end
section
variable {A:Nat→Prop} {C:Ctx} {w:World} {β:Nat→Option Nat} {h:Nat→Option Blk} {n:Nat} {ρ:AOpd→Option V} {a:Act}
def opval (G:Nat→Option V) (E:Nat→Option V):AOpd→Option V
 | .t t=>E t
 | .c v=>some v
 | .f k=>some (.fn k [] [])
 | .g k=>G k
def OpdOk (C:Ctx) (w:World) (S:Nat→Prop) (β:Nat→Option Nat) (ρ:AOpd→Option V) (a:Act):Prop:=∀(x:Operand) (y:AOpd) (v:V),C.T.opd x=some y→ρ y=some v→Rel C.N w S β v (a.eval x)
def Runs (A:Nat→Prop) (C:Ctx) (w:World) (β:Nat→Option Nat) (h:Nat→Option Blk) (n:Nat) (e:Eff) (s:Sem Next):Prop:=
 ∃x w',(s.run C.T.P w=.ok (.value x) w'∨(s.run C.T.P w=.ok .skip w'∧x=undef))∧EffOk A C.N w β h n e x w'
theorem runs_same (hh:HeapR A C.N w β h) {s:Sem Value} {e:Eff} {x:Value} (h1:e.upd=[]) (h2:e.new=[]) (hs:s.run C.T.P w=.ok x w) (hr:Rel C.N w (Imm A w β h) β e.v x):Runs A C w β h n e (do pure (.value (←s))):=
 ⟨x,w,.inl (by rw [Sem.run_bind,hs];rfl),effOk_same hh h1 h2 rfl rfl rfl rfl hr⟩
theorem run_sizeOf' {T:Tr} {t:TypeId} {k:Nat} (h:T.size t=some k) (w:World):(sizeOf t).run T.P w=.ok k w:=by
 unfold Tr.size at h
 cases hq:T.P.info? t with
 | none=>rw [hq] at h;cases h
 | some i=>rw [hq] at h;simp at h;subst h;simp [sizeOf,typeInfo,Sem.run_bind,hq]
theorem run_isAgg' {T:Tr} {t:TypeId} {g:Bool} (h:T.isAgg t=some g) (w:World):(isAgg t).run T.P w=.ok g w:=by
 unfold Tr.isAgg at h
 cases hq:T.P.underlying t with
 | none=>rw [hq] at h;cases h
 | some d=>
  rw [hq] at h
  unfold isAgg
  rw [Sem.run_bind,run_underlying hq w]
  cases d <;> simp at h <;> subst h <;> rfl
theorem run_info' {T:Tr} {t:TypeId} {i:TypeInfo} (h:T.P.info? t=some i) (w:World):(typeInfo t).run T.P w=.ok i w:=by
 simp [typeInfo,Sem.run_bind,h]
theorem takeCells_spec {row:List V} {o k:Nat} {leaf:Bool} {v:V} (h:takeCells row o k leaf=some v) :
    (leaf=true∧row[o]?=some v)∨(leaf=false∧v=.agg ((row.drop o).take k)∧o+k≤row.length∨leaf=false∧k=0∧v=.agg []):=by
 unfold takeCells at h
 cases leaf with
 | true=>
  simp only [if_true] at h
  split at h
  ·rename_i c hc
   simp only [Option.some.injEq] at h
   subst h
   left
   refine ⟨rfl,?_⟩
   have h0:((row.drop o).take k)[0]?=some c:=by rw [hc];rfl
   rw [List.getElem?_take] at h0
   split at h0
   ·rw [List.getElem?_drop] at h0;simpa using h0
   ·cases h0
  ·cases h
 | false=>
  simp only [Bool.false_eq_true,if_false] at h
  split at h
  ·rename_i hl
   simp only [Option.some.injEq] at h
   subst h
   right
   rw [List.length_take,List.length_drop] at hl
   by_cases hk:k=0
   ·right;subst hk;exact ⟨rfl,rfl,by simp⟩
   ·left;exact ⟨rfl,rfl,by omega⟩
  ·cases h
theorem load_cells {T:Tr} {t:TypeId} {k:Nat} {g:Bool} (hsz:T.size t=some k) (hag:T.isAgg t=some g) {N:Nums} {S:Nat→Prop} {row:List V} {o:Nat} {v:V} (ht:takeCells row o k (!g)=some v) (b off:Nat)
    (hc:∀(j:Nat) (x:V),row[j]?=some x→∃y,w.cell? ⟨b,off+j,none⟩=some y∧y.oneCell'=true∧Rel N w S β x y) :
    ∃y,(Instr.loadAt t (.pointer (some ⟨b,off+o,none⟩))).run T.P w=.ok y w∧Rel N w S β v y:=by
 have hrun:∀y,(loadVar t ⟨b,off+o,none⟩).run T.P w=.ok y w→(Instr.loadAt t (.pointer (some ⟨b,off+o,none⟩))).run T.P w=.ok y w:=fun y hy=>by
  simp only [Instr.loadAt,Instr.sureAddr,Sem.run_bind,Sem.run_pure,Result.andThen_ok,hy]
 rcases takeCells_spec ht with ⟨h1,h2⟩|⟨h1,h2,h3⟩|⟨h1,h2,h3⟩
 ·have hg:g=false:=by simpa using h1
  subst hg
  obtain ⟨y,hy,-,hr⟩:=hc o v h2
  refine ⟨y,hrun y ?_,hr⟩
  unfold loadVar
  rw [Sem.run_bind,run_isAgg' hag w]
  simp [load,Sem.run,hy]
 ·have hg:g=true:=by simpa using h1
  subst hg
  have hex:∃cs:List Value,cs.length=k∧∀j,j < k→∃x y,row[o+j]?=some x∧cs[j]?=some y∧w.cell? ⟨b,off+o+j,none⟩=some y∧y.oneCell'=true∧Rel N w S β x y:=by
   refine ⟨(List.range k).map fun j=>(w.cell? ⟨b,off+o+j,none⟩).getD undef,by simp,fun j hj=>?_⟩
   obtain ⟨x,hx⟩:∃x,row[o+j]?=some x:=⟨_,List.getElem?_eq_getElem (by omega)⟩
   obtain ⟨y,hy,h1,hr⟩:=hc (o+j) x hx
   rw [←Nat.add_assoc] at hy
   exact ⟨x,y,hx,by simp [hj,hy],hy,h1,hr⟩
  obtain ⟨cs,hl,hcs⟩:=hex
  refine ⟨.agg cs.toArray,hrun _ ?_,?_⟩
  ·have hra:w.rangeAt b (off+o) cs:=fun j y hy=>by
     have hj:j < k:=by rw [←hl];exact (List.getElem?_eq_some_iff.1 hy).1
     obtain ⟨x,y',_,h5,h6,_,_⟩:=hcs j hj
     rw [hy] at h5;cases h5;exact h6
   have:(loadCells ⟨b,off+o,none⟩ cs.length).run T.P w=.ok cs.toArray w:=run_loadCells_list (P:=T.P) w ⟨b,off+o,none⟩ cs (fun j v hv=>by rw [Addr.add_mid];exact hra j v hv)
   unfold loadVar
   rw [Sem.run_bind,run_isAgg' hag w,Result.andThen_ok,if_pos rfl,Sem.run_bind,run_sizeOf' hsz w,Result.andThen_ok,Sem.run_bind,←hl,this]
   rfl
  ·rw [h2]
   refine .agg _ _ _ (by simp [hl];omega) (fun j y hy=>?_) (fun j c y hc' hy=>?_)
   ·have hj:j < k:=by rw [←hl];simpa using (Array.getElem?_eq_some_iff.1 hy).1
    obtain ⟨x,y',h4,h5,_,h6,h7⟩:=hcs j hj
    have:cs[j]?=some y:=by simpa using hy
    rw [h5] at this;cases this;exact h6
   have hj:j < k:=by rw [←hl];simpa using (Array.getElem?_eq_some_iff.1 hy).1
   obtain ⟨x,y',h4,h5,_,_,h7⟩:=hcs j hj
   rw [List.getElem?_take,if_pos hj,List.getElem?_drop,h4] at hc'
   simp at hy
   have:cs[j]?=some y:=by simpa using hy
   rw [h5] at this
   cases hc';cases this;exact h7
 ·have hg:g=true:=by simpa using h1
  subst hg
  subst h2;subst h3
  refine ⟨.agg #[],hrun _ ?_,.agg _ _ _ (by simp) (fun i y hy=>by simp at hy) (fun i c y hc=>by simp at hc)⟩
  unfold loadVar
  rw [Sem.run_bind,run_isAgg' hag w,Result.andThen_ok,if_pos rfl,Sem.run_bind,run_sizeOf' hsz w,Result.andThen_ok]
  rfl
theorem BlkR.cell {N:Nums} {S:Nat→Prop} {size:Nat} {rows:List (List V)} {b:Nat} (hb:BlkR N w S β (.arr size rows) b) {i:Nat} {row:List V} (hi:rows[i]?=some row) {j:Nat} {x:V} (hj:row[j]?=some x) :
    ∃y,w.cell? ⟨b,i*size+j,none⟩=some y∧y.oneCell'=true∧Rel N w S β x y:=by
 obtain ⟨cells,T,fz,h1,h2,h3,h4⟩:=hb
 obtain ⟨y,hy,h5,hr⟩:=h4 i row j x hi hj
 exact ⟨y,by simp [World.cell?,h1,hy],h5,hr⟩
theorem loadV_runs (hh:HeapR A C.N w β h) {t:TypeId} {k:Nat} {g:Bool} (hsz:C.T.size t=some k) (hag:C.T.isAgg t=some g) {p:V} {x:Value} (hp:Rel C.N w (Imm A w β h) β p x) {e:Eff} (he:loadV h k (!g) p=some e) :
    Runs A C w β h n e (do pure (.value (←Instr.loadAt t x))):=by
 cases hp with
 | ptr _ a size i o b hb=>
  unfold loadV at he
  cases hk:h a with
  | none=>simp only [hk] at he;cases he
  | some kk=>
   cases kk with
   | arr size' rows=>
    simp only [hk] at he
    split at he
    ·rename_i hs
     subst hs
     simp only [Option.bind_eq_some_iff] at he
     obtain ⟨row,hrow,v,hv,he⟩:=he
     simp only [Option.some.injEq] at he
     subst he
     obtain ⟨b',h1,h2,h3⟩:=hh.at' a _ hk
     rw [hb] at h1;cases h1
     obtain ⟨y,hy,hr⟩:=load_cells (w:=w) (β:=β) hsz hag (N:=C.N) hv b (i*size) (fun j x hj=>h3.cell hrow hj)
     exact runs_same hh rfl rfl hy hr
    ·cases he
   | _=>simp only [hk] at he;cases he
 | iptr _ size rows i o b off ys hS hr hy hrel=>
  simp only [loadV,Option.bind_eq_some_iff] at he
  obtain ⟨row,hrow,v,hv,he⟩:=he
  simp only [Option.some.injEq] at he
  subst he
  obtain ⟨y,hy,hr⟩:=load_cells (w:=w) (β:=β) hsz hag (N:=C.N) (S:=Imm A w β h) hv b (off+i*size) (fun j x hj=>⟨_,(hy i row j x hrow hj).1,(hy i row j x hrow hj).2,(hrel i row j x hrow hj).mono (fun _ h=>h) (fun _ _=>rfl) (fun _ _ h=>h) (fun _ _ h=>by cases h)⟩)
  exact runs_same hh rfl rfl hy hr
 | _=>simp [loadV] at he
end
end Go.Proofs.YtigdhgbkgfagiaaGreat
namespace Go.Proofs.YtigdhgbkgfagiaaGreat
theorem setCells_heap (b:Nat) (T:TypeId) (fz:Nat×Nat):∀(vs:List Value) (o:Nat) (w:World) (cells:Array Value),w.heap[b]?=some (.cells cells T fz)→o+vs.length≤cells.size→
    ∃cells',(w.setCells b o vs).heap[b]?=some (.cells cells' T fz)∧cells'.size=cells.size∧(∀k,k < o∨o+vs.length≤k→cells'[k]?=cells[k]?)∧(∀j,j < vs.length→cells'[o+j]?=vs[j]?)
 | [],o,w,cells,h,_=>⟨cells,h,rfl,fun _ _=>rfl,fun j hj=>by simp at hj⟩
 | v::r,o,w,cells,h,hl=>by
  have h1:(w.setCell ⟨b,o,none⟩ v).heap[b]?=some (.cells (cells.setIfInBounds o v) T fz):=by
   simp [World.setCell,Array.getElem?_modify,h]
  obtain ⟨cells',h2,h3,h4,h5⟩:=setCells_heap b T fz r (o+1) (w.setCell ⟨b,o,none⟩ v) _ h1 (by simp at hl ⊢;omega)
  refine ⟨cells',h2,by simpa using h3,fun k hk=>?_,fun j hj=>?_⟩
  ·rw [h4 k (by simp at hk;omega),Array.getElem?_setIfInBounds_ne (by simp at hk;omega)]
  ·cases j with
   | zero=>
    rw [h4 (o+0) (by omega)]
    simp at hl
    simp [Array.getElem?_setIfInBounds]
    omega
   | succ j=>
    have:=h5 j (by simpa using hj)
    rw [show o+(j+1)=o+1+j by omega,this]
    simp
theorem setCells_same (b:Nat):∀(vs:List Value) (o:Nat) (w:World),(∀c,c≠b→(w.setCells b o vs).heap[c]?=w.heap[c]?)∧(w.setCells b o vs).heap.size=w.heap.size∧(w.setCells b o vs).os=w.os∧(w.setCells b o vs).tape=w.tape∧(w.setCells b o vs).output=w.output
 | [],o,w=>⟨fun _ _=>rfl,rfl,rfl,rfl,rfl⟩
 | v::r,o,w=>by
  obtain ⟨h1,h2,h3,h4,h5⟩:=setCells_same b r (o+1) (w.setCell ⟨b,o,none⟩ v)
  refine ⟨fun c hc=>?_,?_,h3,h4,h5⟩
  ·rw [World.setCells,h1 c hc]
   simp only [World.setCell,Array.getElem?_modify]
   rw [if_neg (fun e=>hc e.symm)]
  ·rw [World.setCells,h2];simp [World.setCell]
theorem setCells_room (b0:Nat) (vs:List Value) (o:Nat) (w:World) {cells:Array Value} {T:TypeId} {fz:Nat×Nat} (h:w.heap[b0]?=some (.cells cells T fz)) (hl:o+vs.length≤cells.size) (b m:Nat) (hr:Room w b m):Room (w.setCells b0 o vs) b m:=by
 by_cases e:b=b0
 ·subst e
  obtain ⟨cells',h1,h2,_⟩:=setCells_heap b T fz vs o w cells h hl
  obtain ⟨c2,T2,fz2,g1,g2,g3⟩:=hr
  rw [h] at g1
  cases g1
  exact ⟨cells',T,fz,h1,by rw [h2];exact g2,g3⟩
 ·obtain ⟨c2,T2,fz2,g1,g2⟩:=hr
  exact ⟨c2,T2,fz2,by rw [(setCells_same b0 vs o w).1 b e];exact g1,g2⟩
theorem run_storeCells_held {P:Program} {w:World} {b o:Nat} {cells:Array Value} {T:TypeId} {fz:Nat×Nat} (hb:w.heap[b]?=some (.cells cells T fz)) (vs:List Value) (hl:o+vs.length≤cells.size) (hz:∀k,k < cells.size→o≤k→k < o+vs.length→¬(fz.1≤k∧k < fz.2))
    (h1:∀v∈vs,v.oneCell'=true):(storeCells ⟨b,o,none⟩ vs).run P w=.ok () (w.setCells b o vs):=by
 have:=run_storeCells_cells (P:=P) b o vs 0 w (fun j hj=>by
  simp only [World.cell?,hb]
  simp;omega) (fun j hj=>by
  have:=hz (o+j) (by omega) (by omega) (by omega)
  simp only [World.frozen?,hb]
  simp;omega) h1
 simpa using this
section
variable {A:Nat→Prop} {C:Ctx} {w:World} {β:Nat→Option Nat} {h:Nat→Option Blk} {n:Nat} {ρ:AOpd→Option V} {a:Act}
theorem store_row {row xs:List V} {o k:Nat} (hx:xs.length=k) (ho:o+k≤row.length) (j:Nat) :
    (row.take o++xs++row.drop (o+k))[j]?=if j < o then row[j]? else if j < o+k then xs[j - o]? else row[j]?:=by
 by_cases h1:j < o
 ·rw [if_pos h1,List.append_assoc,List.getElem?_append_left (by simp;omega),List.getElem?_take,if_pos h1]
 ·rw [if_neg h1,List.append_assoc,List.getElem?_append_right (by simp;omega)]
  have hlen:(row.take o).length=o:=by simp;omega
  rw [hlen]
  by_cases h2:j < o+k
  ·rw [if_pos h2,List.getElem?_append_left (by omega)]
  ·rw [if_neg h2,List.getElem?_append_right (by omega),List.getElem?_drop,hx,show o+k+(j - o - k)=j by omega]
theorem store_row_length {row xs:List V} {o k:Nat} (hx:xs.length=k) (ho:o+k≤row.length):(row.take o++xs++row.drop (o+k)).length=row.length:=by
 simp;omega
theorem storeV_runs (hh:HeapR A C.N w β h) {t:TypeId} {k:Nat} (hsz:C.T.size t=some k) {p x:V} {px vx:Value} (hp:Rel C.N w (Imm A w β h) β p px) (hx:Rel C.N w (Imm A w β h) β x vx) {e:Eff} (he:storeV h k p x=some e) :
    Runs A C w β h n e (do Instr.storeAt t px vx;pure .skip):=by
 cases hp with
 | ptr _ a size i o b hb=>
  unfold storeV at he
  cases hk:h a with
  | none=>simp only [hk] at he;cases he
  | some kk=>
   cases kk with
   | loop=>simp only [hk] at he;cases he
   | stop=>simp only [hk] at he;cases he
   | map=>simp only [hk] at he;cases he
   | iter=>simp only [hk] at he;cases he
   | siter=>simp only [hk] at he;cases he
   | junk=>simp only [hk] at he;cases he
   | arr size' rows=>
    simp only [hk] at he
    split at he
    ·rename_i hs
     obtain ⟨hs,hxl,hxv⟩:=hs
     subst hs
     simp only [Option.bind_eq_some_iff] at he
     obtain ⟨row,hrow,he⟩:=he
     split at he
     ·rename_i ho
      simp only [Option.some.injEq] at he
      subst he
      obtain ⟨b',h1,h2,hbr⟩:=hh.at' a _ hk
      rw [hb] at h1;cases h1
      obtain ⟨c1,c2,c3⟩:=hx.cells hxv
      obtain ⟨cells,TT,fz,g1,g2,g3,g4⟩:=hbr
      have hi:i < rows.length:=(List.getElem?_eq_some_iff.1 hrow).1
      have hrl:row.length=size:=g3 i row hrow
      have hin:i*size+o+vx.cells.toList.length≤rows.length*size:=by
       have:(i+1)*size≤rows.length*size:=Nat.mul_le_mul_right _ (by omega)
       rw [Nat.add_mul] at this
       simp [c1,hxl];omega
      have hfit:i*size+o+vx.cells.toList.length≤cells.size:=by
       by_cases h0:i*size+o+vx.cells.toList.length=0
       ·omega
       ·have:=(g2 (i*size+o+vx.cells.toList.length - 1) (by omega)).1;omega
      have hrun:=run_storeCells_held (P:=C.T.P) g1 vx.cells.toList hfit (fun q hq _ hq2=>(g2 q (by omega)).2) (fun v hv=>by
       obtain ⟨q,hq⟩:=List.getElem?_of_mem hv
       exact c2 q v (by simpa using hq))
      obtain ⟨cells',q1,q2,q3,q4⟩:=setCells_heap b TT fz vx.cells.toList (i*size+o) w cells g1 hfit
      obtain ⟨r1,r2,r3,r4,r5⟩:=setCells_same b vx.cells.toList (i*size+o) w
      refine ⟨undef,w.setCells b (i*size+o) vx.cells.toList,.inr ⟨?_,rfl⟩,effOk_upd (b:=b) (k':=.arr size (rows.set i (row.take o++x.cells++row.drop (o+k)))) hh hk hb rfl rfl r1 (setCells_room b _ _ w g1 hfit) r2 r3 r4 r5 (fun S hS=>?_) (fun S hS=>.tup _ [] #[] rfl (fun i c y hc=>by simp at hc))⟩
      ·rw [Sem.run_bind]
       have:(Instr.storeAt t (.pointer (some ⟨b,i*size+o,none⟩)) vx).run C.T.P w=.ok () (w.setCells b (i*size+o) vx.cells.toList):=by
        simp only [Instr.storeAt,Instr.sureAddr,Sem.run_bind,Sem.run_pure,Result.andThen_ok,storeVar,run_sizeOf' hsz w]
        rw [if_neg (by simp [c1,hxl])]
        exact hrun
       rw [this];rfl
      ·refine ⟨cells',TT,fz,q1,fun o' ho'=>?_,fun i' row' hr'=>?_,fun i' row' j x' hr' hj=>?_⟩
       ·rw [q2];exact g2 o' (by simpa using ho')
       ·rw [List.getElem?_set] at hr'
        by_cases e1:i=i'
        ·subst e1
         simp [hi] at hr'
         subst hr'
         rw [←List.append_assoc,store_row_length hxl ho];exact hrl
        ·rw [if_neg e1] at hr';exact g3 i' row' hr'
       ·have hsame:∀b0,Imm A w β h b0→(w.setCells b (i*size+o) vx.cells.toList).heap[b0]?=w.heap[b0]?:=fun b0 hb0=>
          r1 b0 (fun e=>by subst e;exact hb0.free ⟨a,by rw [hk];simp,hb⟩)
        rw [List.getElem?_set] at hr'
        by_cases e1:i=i'
        ·subst e1
         simp only [if_true,hi] at hr'
         cases hr'
         rw [store_row hxl ho] at hj
         by_cases e2:j < o
         ·rw [if_pos e2] at hj
          obtain ⟨y,hy,hy1,hyr⟩:=g4 i row j x' hrow hj
          exact ⟨y,by rw [q3 _ (by omega)];exact hy,hy1,hyr.mono hS hsame (setCells_room b _ _ w g1 hfit) (fun _ _ h=>h)⟩
         ·rw [if_neg e2] at hj
          by_cases e3:j < o+k
          ·rw [if_pos e3] at hj
           have hlt:j - o < vx.cells.toList.length:=by simp [c1,hxl];omega
           obtain ⟨y,hy⟩:∃y,vx.cells.toList[j - o]?=some y:=⟨_,List.getElem?_eq_getElem hlt⟩
           have hy':vx.cells[j - o]?=some y:=by simpa using hy
           refine ⟨y,?_,c2 _ _ hy',(c3 _ _ _ hj hy').mono hS hsame (setCells_room b _ _ w g1 hfit) (fun _ _ h=>h)⟩
           have:=q4 (j - o) hlt
           rw [show i*size+o+(j - o)=i*size+j by omega] at this
           rw [this,hy]
          ·rw [if_neg e3] at hj
           obtain ⟨y,hy,hy1,hyr⟩:=g4 i row j x' hrow hj
           exact ⟨y,by rw [q3 _ (by simp [c1,hxl];omega)];exact hy,hy1,hyr.mono hS hsame (setCells_room b _ _ w g1 hfit) (fun _ _ h=>h)⟩
        ·rw [if_neg e1] at hr'
         obtain ⟨y,hy,hy1,hyr⟩:=g4 i' row' j x' hr' hj
         have hj':j < size:=by rw [←g3 i' row' hr'];exact (List.getElem?_eq_some_iff.1 hj).1
         refine ⟨y,?_,hy1,hyr.mono hS hsame (setCells_room b _ _ w g1 hfit) (fun _ _ h=>h)⟩
         rw [q3 _ ?_]
         ·exact hy
         ·rcases Nat.lt_or_gt_of_ne e1 with e4|e4
          ·have:(i+1)*size≤i'*size:=Nat.mul_le_mul_right _ e4
           rw [Nat.add_mul] at this
           simp [c1,hxl];omega
          ·have:(i'+1)*size≤i*size:=Nat.mul_le_mul_right _ e4
           rw [Nat.add_mul] at this
           omega
     ·cases he
    ·cases he
 | _=>simp [storeV] at he
theorem fold_put (off:Nat):∀(l:List Value) (st:Nat) (cs:Array Value),((l.zipIdx st).foldl (fun cs (p:Value×Nat)=>cs.setIfInBounds (off+p.2) p.1) cs).size=cs.size∧
    ∀k,((l.zipIdx st).foldl (fun cs (p:Value×Nat)=>cs.setIfInBounds (off+p.2) p.1) cs)[k]?=if off+st≤k∧k < off+st+l.length∧k < cs.size then l[k - (off+st)]? else cs[k]?
 | [],st,cs=>⟨rfl,fun k=>by rw [if_neg (by simp;omega)];rfl⟩
 | v::r,st,cs=>by
  obtain ⟨h1,h2⟩:=fold_put off r (st+1) (cs.setIfInBounds (off+st) v)
  rw [List.zipIdx_cons,List.foldl_cons]
  refine ⟨by rw [h1];simp,fun k=>?_⟩
  rw [h2 k]
  simp only [Array.size_setIfInBounds,List.length_cons]
  by_cases e1:off+(st+1)≤k∧k < off+(st+1)+r.length∧k < cs.size
  ·rw [if_pos e1,if_pos (by omega)]
   rw [show k - (off+st)=k - (off+(st+1))+1 by omega];simp
  ·rw [if_neg e1]
   by_cases e2:k=off+st
   ·subst e2
    by_cases e3:off+st < cs.size
    ·rw [if_pos (by omega)];simp [e3]
    ·rw [if_neg (by omega),Array.getElem?_eq_none (by simp;omega),Array.getElem?_eq_none (by omega)]
   ·rw [if_neg (by omega),Array.getElem?_setIfInBounds_ne (by omega)]
def CellsR (N:Nums) (w:World) (S:Nat→Prop) (β:Nat→Option Nat) (cs:List V) (ys:Array Value):Prop:=
 ys.size=cs.length∧(∀(i:Nat) (y:Value),ys[i]?=some y→y.oneCell'=true)∧∀(i:Nat) (c:V) (y:Value),cs[i]?=some c→ys[i]?=some y→Rel N w S β c y
theorem CellsR.get {N:Nums} {S:Nat→Prop} {cs:List V} {ys:Array Value} (hc:CellsR N w S β cs ys) {i:Nat} {c:V} (h:cs[i]?=some c):∃y,ys[i]?=some y∧y.oneCell'=true∧Rel N w S β c y:=by
 have:i < ys.size:=by rw [hc.1];exact (List.getElem?_eq_some_iff.1 h).1
 exact ⟨ys[i],Array.getElem?_eq_getElem this,hc.2.1 i _ (Array.getElem?_eq_getElem this),hc.2.2 i c _ h (Array.getElem?_eq_getElem this)⟩
theorem CellsR.mk' {N:Nums} {S:Nat→Prop} {cs:List V} {ys:Array Value} (h:ys.size=cs.length) (hg:∀(i:Nat) (c:V),cs[i]?=some c→∃y,ys[i]?=some y∧y.oneCell'=true∧Rel N w S β c y):CellsR N w S β cs ys:=by
 refine ⟨h,fun i y hy=>?_,fun i c y hc hy=>?_⟩
 ·have:i < cs.length:=by rw [←h];exact (Array.getElem?_eq_some_iff.1 hy).1
  obtain ⟨y',h1,h2,_⟩:=hg i _ (List.getElem?_eq_getElem this)
  rw [hy] at h1;cases h1;exact h2
 ·obtain ⟨y',h1,_,h2⟩:=hg i c hc
  rw [hy] at h1;cases h1;exact h2
theorem Rel.cellsR {N:Nums} {S:Nat→Prop} {v:V} {x:Value} (h:Rel N w S β v x) (hv:v.isVal=true):CellsR N w S β v.cells x.cells:=h.cells hv
theorem CellsR.put {N:Nums} {S:Nat→Prop} {cs:List V} {ys:Array Value} (hc:CellsR N w S β cs ys) {vs:List V} {xs:Array Value} (hv:CellsR N w S β vs xs) {off size:Nat} (hs:vs.length=size) (hf:off+size≤cs.length) :
    CellsR N w S β (cs.take off++vs++cs.drop (off+size)) (xs.zipIdx.foldl (fun cs (c,j)=>cs.setIfInBounds (off+j) c) ys):=by
 have e:xs.zipIdx.foldl (fun cs (c,j)=>cs.setIfInBounds (off+j) c) ys=(xs.toList.zipIdx 0).foldl (fun cs (p:Value×Nat)=>cs.setIfInBounds (off+p.2) p.1) ys:=by
  rw [←Array.foldl_toList,Array.toList_zipIdx]
 obtain ⟨h1,h2⟩:=fold_put off xs.toList 0 ys
 rw [e]
 refine .mk' (by rw [h1,hc.1,store_row_length hs hf]) (fun i c hi=>?_)
 rw [store_row hs hf] at hi
 rw [h2 i]
 have hx:=hv.1
 by_cases e1:i < off
 ·rw [if_pos e1] at hi
  rw [if_neg (by omega)];exact hc.get hi
 ·rw [if_neg e1] at hi
  by_cases e2:i < off+size
  ·rw [if_pos e2] at hi
   rw [if_pos ⟨by omega,by simp;omega,by rw [hc.1];omega⟩]
   obtain ⟨y,hy,r⟩:=hv.get hi
   exact ⟨y,by simpa using hy,r⟩
  ·rw [if_neg e2] at hi
   rw [if_neg (by simp;omega)];exact hc.get hi
inductive PartsR (N:Nums) (w:World) (S:Nat→Prop) (β:Nat→Option Nat) (place:Nat→Option (Nat×Nat)):List (Nat×Nat×V)→List (Nat×Value)→Prop where
 | nil:PartsR N w S β place [] []
 | cons {i off size:Nat} {v:V} {x:Value} {l:List (Nat×Nat×V)} {m:List (Nat×Value)} (hp:place i=some (off,size)) (h:Rel N w S β v x) (r:PartsR N w S β place l m):PartsR N w S β place ((off,size,v)::l) ((i,x)::m)
theorem fill_rel {N:Nums} {S:Nat→Prop} {place:Nat→Option (Nat×Nat)} {l:List (Nat×Nat×V)} {m:List (Nat×Value)} (hp:PartsR N w S β place l m) :
    ∀{cs cs':List V} {ys:Array Value},CellsR N w S β cs ys→fillCells cs l=some cs'→∃ys',Instr.fill place ys m=some ys'∧CellsR N w S β cs' ys':=by
 induction hp with
 | nil=>intro cs cs' ys hc h;simp [fillCells] at h;subst h;exact ⟨ys,rfl,hc⟩
 | cons hpl hr _ ih=>
  intro cs cs' ys hc h
  simp only [fillCells] at h
  split at h
  ·rename_i hcond
   obtain ⟨h1,h2,h3⟩:=hcond
   have hv:=hr.cellsR h2
   obtain ⟨ys',g1,g2⟩:=ih (hc.put hv h1 h3) h
   refine ⟨ys',?_,g2⟩
   simp only [Instr.fill,hpl]
   rw [if_neg (by simp [hv.1,h1,hc.1];omega)]
   exact g1
  ·cases h
theorem evalParts_rel {S:Nat→Prop} (ho:OpdOk C w S β ρ a) {place place':Nat→Option (Nat×Nat)}:∀{ps:List (Nat×Operand)} {as:List (Nat×Nat×AOpd)} {vs:List (Nat×Nat×V)},C.T.parts place ps=some as→evalParts ρ as=some vs→
    (∀i q,place i=some q→place' i=some q)→PartsR C.N w S β place' vs (ps.map fun p=>(p.1,a.eval p.2))
 | [],as,vs,h1,h2,_=>by
  simp [Tr.parts] at h1;subst h1
  simp [evalParts] at h2;subst h2
  exact .nil
 | (i,x)::r,as,vs,h1,h2,hpl=>by
  simp only [Tr.parts,Option.bind_eq_some_iff] at h1
  obtain ⟨⟨o,s⟩,hp,y,hy,l,hl,h1⟩:=h1
  simp only [Option.some.injEq] at h1
  subst h1
  simp only [evalParts,Option.bind_eq_some_iff] at h2
  obtain ⟨v,hv,vs',hvs,h2⟩:=h2
  simp only [Option.some.injEq] at h2
  subst h2
  exact .cons (hpl _ _ hp) (ho x y v hy hv) (evalParts_rel ho hl hvs hpl)
theorem zero_rel {T:Tr} {t:TypeId} {z:List V} (hz:T.zero t=some z) {N:Nums} {S:Nat→Prop}:∃i v,T.P.info? t=some i∧i.zero=some v∧CellsR N w S β z v.cells:=by
 unfold Tr.zero at hz
 cases hq:T.P.info? t with
 | none=>rw [hq] at hz;cases hz
 | some i=>
  rw [hq] at hz
  simp only [Option.bind_some,Option.bind_eq_some_iff] at hz
  obtain ⟨v,hv,hz⟩:=hz
  obtain ⟨h1,h2,h3⟩:=V.ofs_rel (N:=N) (w:=w) (S:=S) (β:=β) v.cells.toList z hz
  exact ⟨i,v,rfl,hv,by simpa using h1,fun i y hy=>h3 i y (by simpa using hy),fun i c y hc hy=>h2 i c y hc (by simpa using hy)⟩
theorem run_zero {T:Tr} {t:TypeId} {i:TypeInfo} {v:Value} (hi:T.P.info? t=some i) (hv:i.zero=some v) (w:World):(zeroValue t).run T.P w=.ok v w:=by
 simp [zeroValue,Sem.run_bind,run_info' hi w,hv]
theorem build_runs (hh:HeapR A C.N w β h) (ho:OpdOk C w (Imm A w β h) β ρ a) {t:TypeId} {ps:Array (Nat×Operand)} {z:List V} {as:List (Nat×Nat×AOpd)} {vs:List (Nat×Nat×V)} {cs:List V} (hop:C.T.op (.build t ps)=some (.build z as))
    (hv:evalParts ρ as=some vs) (hf:fillCells z vs=some cs):Runs A C w β h n { v:=.agg cs } (do pure (.value (←Instr.build t (ps.map fun (i,x)=>(i,a.eval x))))):=by
 have hps:(ps.map fun (i,x)=>(i,a.eval x)).toList=ps.toList.map fun p=>(p.1,a.eval p.2):=by simp
 simp only [Tr.op] at hop
 split at hop
 ·rename_i fs hu
  simp only [Option.bind_eq_some_iff,Option.map_eq_some_iff] at hop
  obtain ⟨places,hplaces,z',hz,as',has,hop⟩:=hop
  injection hop with e1 e2
  subst e1;subst e2
  obtain ⟨i,v,hi,hzv,hc⟩:=zero_rel (w:=w) (β:=β) hz (N:=C.N) (S:=Imm A w β h)
  have hpm:=run_places (P:=C.T.P) w fs.toList places hplaces
  obtain ⟨ys,g1,g2⟩:=fill_rel (evalParts_rel ho has hv (place':=(places[·]?)) (fun _ _ h=>h)) hc hf
  refine runs_same hh rfl rfl (x:=.agg ys) ?_ (.agg _ cs ys g2.1 g2.2.1 g2.2.2)
  simp [Instr.build,run_zero hi hzv w,run_underlying hu w,hpm,Array.mapM_eq_mapM_toList,g1]
 ·rename_i k e hu
  simp only [Option.bind_eq_some_iff,Option.map_eq_some_iff] at hop
  obtain ⟨z',hz,s,hs,as',has,hop⟩:=hop
  injection hop with e1 e2
  subst e1;subst e2
  obtain ⟨i,v,hi,hzv,hc⟩:=zero_rel (w:=w) (β:=β) hz (N:=C.N) (S:=Imm A w β h)
  obtain ⟨ys,g1,g2⟩:=fill_rel (evalParts_rel ho has hv (place':=fun i=>some (i*s,s)) (fun _ _ h=>h)) hc hf
  refine runs_same hh rfl rfl (x:=.agg ys) ?_ (.agg _ cs ys g2.1 g2.2.1 g2.2.2)
  unfold Instr.build
  simp only [Sem.run_bind,run_zero hi hzv w,Result.andThen_ok,run_underlying hu w,hps,run_sizeOf' hs w]
  rw [g1];rfl
 ·cases hop
end
end Go.Proofs.YtigdhgbkgfagiaaGreat
namespace Go.Proofs.YtigdhgbkgfagiaaGreat
section
variable {A:Nat→Prop} {C:Ctx} {w:World} {β:Nat→Option Nat} {h:Nat→Option Blk} {n:Nat} {ρ:AOpd→Option V} {a:Act}
def GridR (N:Nums) (w:World) (S:Nat→Prop) (β:Nat→Option Nat) (size:Nat) (rows:List (List V)) (cells:Array Value):Prop:=
 (∀(i:Nat) (row:List V),rows[i]?=some row→row.length=size)∧rows.length*size≤cells.size∧
 ∀(i:Nat) (row:List V) (j:Nat) (x:V),rows[i]?=some row→row[j]?=some x→∃y,cells[i*size+j]?=some y∧y.oneCell'=true∧Rel N w S β x y
theorem GridR.mono {N:Nums} {w w':World} {S S':Nat→Prop} {β β':Nat→Option Nat} {size:Nat} {rows:List (List V)} {cells:Array Value} (g:GridR N w S β size rows cells) (hS:∀b,S b→S' b) (hw:∀b,S b→w'.heap[b]?=w.heap[b]?) (hm:∀b m,Room w b m→Room w' b m)
    (hβ:∀a b,β a=some b→β' a=some b):GridR N w' S' β' size rows cells:=
 ⟨g.1,g.2.1,fun i row j x hi hj=>let ⟨y,h1,h2,h3⟩:=g.2.2 i row j x hi hj;⟨y,h1,h2,h3.mono hS hw hm hβ⟩⟩
theorem grid_lt {i j size len:Nat} (hi:i < len) (hj:j < size):i*size+j < len*size:=by
 have:(i+1)*size≤len*size:=Nat.mul_le_mul_right _ hi
 rw [Nat.add_mul] at this;omega
theorem GridR.blk {N:Nums} {w:World} {S:Nat→Prop} {β:Nat→Option Nat} {size:Nat} {rows:List (List V)} {cells:Array Value} (g:GridR N w S β size rows cells) {b:Nat} {T:TypeId} {fz:Nat×Nat} (hb:w.heap[b]?=some (.cells cells T fz)) (hz:∀o,o < cells.size→¬(fz.1≤o∧o < fz.2)):BlkR N w S β (.arr size rows) b:=
 ⟨cells,T,fz,hb,fun o ho=>⟨by have:=g.2.1;omega,hz o (by have:=g.2.1;omega)⟩,g.1,g.2.2⟩
theorem CellsR.grid {N:Nums} {w:World} {S:Nat→Prop} {β:Nat→Option Nat} {cs:List V} {ys:Array Value} (hc:CellsR N w S β cs ys):GridR N w S β cs.length [cs] ys:=by
 refine ⟨fun i row hr=>?_,by simp [hc.1],fun i row j x hr hj=>?_⟩
 ·cases i with
  | zero=>simp at hr;rw [←hr]
  | succ i=>simp at hr
 ·cases i with
  | zero=>simp at hr;subst hr;obtain ⟨y,h1,h2,h3⟩:=hc.get hj;exact ⟨y,by simpa using h1,h2,h3⟩
  | succ i=>simp at hr
theorem runs_new (hh:HeapR A C.N w β h) (hn:β n=none) (hhn:h n=none) {s:Sem Value} {e:Eff} {x:Value} {w':World} {cells:Array Value} {T:TypeId} {fz:Nat×Nat} {size:Nat} {rows:List (List V)} (h1:e.upd=[]) (h2:e.new=[.arr size rows])
    (hs:s.run C.T.P w=.ok x w') (hw:w'.heap=w.heap.push (.cells cells T fz)) (ho:w'.os=w.os) (ht:w'.tape=w.tape) (hp:w'.output=w.output) (hz:∀o,o < cells.size→¬(fz.1≤o∧o < fz.2))
    (hg:GridR C.N w (Imm A w β h) β size rows cells) (hr:∀(β':Nat→Option Nat) (S:Nat→Prop),β' n=some w.heap.size→Rel C.N w' S β' e.v x):Runs A C w β h n e (do pure (.value (←s))):=by
 refine ⟨x,w',.inl (by rw [Sem.run_bind,hs];rfl),effOk_new (o:=.cells cells T fz) hh hn hhn h1 h2 hw ho ht hp (fun β' S hβ hb hS=>?_) (fun β' S _ hb _=>hr β' S hb)⟩
 have hold:∀b,Imm A w β h b→w'.heap[b]?=w.heap[b]?:=fun b hb=>by rw [hw,Array.getElem?_push,if_neg (by have:=hb.lt;omega)]
 have hroom:∀b m,Room w b m→Room w' b m:=fun b m ⟨cells,T,fz,h1,h2⟩=>⟨cells,T,fz,by rw [hw,Array.getElem?_push,if_neg (by have:=(Array.getElem?_eq_some_iff.1 h1).1;omega)];exact h1,h2⟩
 exact (hg.mono hS hold hroom hβ).blk (T:=T) (fz:=fz) (by rw [hw];simp) hz
theorem alloc_heap (w:World) (o:Obj):(w.alloc o).heap=w.heap.push o:=rfl
theorem box_runs (hh:HeapR A C.N w β h) (hn:β n=none) (hhn:h n=none) {t:TypeId} {v:V} {x:Value} (hx:Rel C.N w (Imm A w β h) β v x) (hv:v.isVal=true) :
    Runs A C w β h n { v:=.ptr n v.cells.length 0 0,new:=[.arr v.cells.length [v.cells]] } (do pure (.value (←Instr.box t x))):=by
 refine runs_new (w':=w.alloc (.cells x.cells t)) (cells:=x.cells) (T:=t) (fz:=(0,0)) (x:=.pointer (some ⟨w.heap.size,0,none⟩)) hh hn hhn rfl rfl ?_ rfl rfl rfl rfl (by simp) (hx.cellsR hv).grid (fun β' S hb=>?_)
 ·simp [Instr.box,newVar,newRow]
 ·have:=Rel.ptr (N:=C.N) (w:=w.alloc (.cells x.cells t)) (S:=S) β' n v.cells.length 0 0 w.heap.size hb
  simpa using this
theorem alloc_runs (hh:HeapR A C.N w β h) (hn:β n=none) (hhn:h n=none) {t:TypeId} {z:List V} (hz:C.T.zero t=some z) :
    Runs A C w β h n { v:=.ptr n z.length 0 0,new:=[.arr z.length [z]] } (do pure (.value (←Instr.alloc t true (.tuple #[])))):=by
 obtain ⟨i,v,hi,hzv,hc⟩:=zero_rel (w:=w) (β:=β) hz (N:=C.N) (S:=Imm A w β h)
 refine runs_new (w':=w.alloc (.cells v.cells t)) (cells:=v.cells) (T:=t) (fz:=(0,0)) (x:=.pointer (some ⟨w.heap.size,0,none⟩)) hh hn hhn rfl rfl ?_ rfl rfl rfl rfl (by simp) hc.grid (fun β' S hb=>?_)
 ·simp [Instr.alloc,newVar,newRow,run_zero hi hzv w]
 ·have:=Rel.ptr (N:=C.N) (w:=w.alloc (.cells v.cells t)) (S:=S) β' n z.length 0 0 w.heap.size hb
  simpa using this
theorem grid_zero {N:Nums} {S:Nat→Prop} {z:List V} {zs:Array Value} (hc:CellsR N w S β z zs) (k:Nat):GridR N w S β z.length (List.replicate k z) ((Array.range (k*z.length)).map (fun i=>zs[i % zs.size]!)):=by
 refine ⟨fun i row hr=>?_,by simp,fun i row j x hr hj=>?_⟩
 ·rw [List.getElem?_replicate] at hr
  split at hr
  ·cases hr;rfl
  ·cases hr
 ·rw [List.getElem?_replicate] at hr
  split at hr
  ·rename_i hi
   cases hr
   obtain ⟨y,h1,h2,h3⟩:=hc.get hj
   have hj':j < z.length:=(List.getElem?_eq_some_iff.1 hj).1
   refine ⟨y,?_,h2,h3⟩
   have hlt:=grid_lt hi hj'
   rw [Array.getElem?_map,Array.getElem?_range,if_pos hlt]
   simp only [Option.map_some,Option.some.injEq]
   rw [hc.1,Nat.mul_comm i,Nat.mul_add_mod,Nat.mod_eq_of_lt hj']
   have:=Array.getElem?_eq_some_iff.1 h1
   obtain ⟨h4,h5⟩:=this
   rw [getElem!_pos zs j h4];exact h5
  ·cases hr
theorem mkslice_runs (hh:HeapR A C.N w β h) (hn:β n=none) (hhn:h n=none) {t e:TypeId} {size bts:Nat} {z:List V} (hu:C.T.P.underlying t=some (.slice e)) (hsz:C.T.size e=some size) (hb:C.T.bytes e=some bts) (hz:C.T.zero e=some z)
    {kl kc:IntKind} {l c:Nat} (h1:l≤c) (h2:c*bts≤140737488355328) (h3:c < 9223372036854775808) (h4:z.length=size) :
    Runs A C w β h n { v:=.ref n size 0 l (some c),new:=[.arr size (List.replicate c z)] } (do pure (.value (←Instr.makeSlice t (.int kl l) (.int kc c)))):=by
 obtain ⟨i,v,hi,hzv,hc⟩:=zero_rel (w:=w) (β:=β) hz (N:=C.N) (S:=Imm A w β h)
 subst h4
 have hbi:i.bytes=bts:=by unfold Tr.bytes at hb;rw [hi] at hb;simpa using hb
 have hsi:i.size=z.length:=by unfold Tr.size at hsz;rw [hi] at hsz;simpa using hsz
 have hg:=grid_zero hc c
 have hrun:∃w',(Instr.makeSlice t (.int kl l) (.int kc c)).run C.T.P w=.ok (.slice (some ⟨w.heap.size,0,none⟩) l c) w'∧w'.heap=w.heap.push (.cells ((Array.range (c*z.length)).map (fun i=>v.cells[i % v.cells.size]!)) e)∧w'.os=w.os∧w'.tape=w.tape∧w'.output=w.output:=by
  have:=run_make (P:=C.T.P) w t e i v hu hi hzv kl kc l c (by omega) (by omega) (by
   have:((c*bts:Nat):Int)≤140737488355328:=by omega
   rw [Int.natCast_mul] at this
   rw [hbi,Int.mul_comm];omega) (by omega)
  simp only [Int.toNat_natCast,hsi] at this
  exact ⟨_,this,rfl,rfl,rfl,rfl⟩
 obtain ⟨w',r1,r2,r3,r4,r5⟩:=hrun
 refine runs_new (w':=w') (fz:=(0,0)) hh hn hhn rfl rfl r1 r2 r3 r4 r5 (by simp) hg (fun β' S hb=>?_)
 have:=Rel.ref (N:=C.N) (w:=w') (S:=S) β' n z.length 0 l (some c) w.heap.size (some ⟨w.heap.size,0,none⟩) c hb (fun k hk=>by cases hk;rfl) h1 (.inr (by simp)) (fun _=>⟨(Array.range (c*z.length)).map (fun i=>v.cells[i % v.cells.size]!),e,(0,0),by rw [r2];simp,by simp,by simp⟩) (by simp)
 exact this
theorem bslice_fill {N:Nums} {S:Nat→Prop} {size:Nat}:∀{l:List (Nat×V)} {m:List (Nat×Value)} {rows rows':List (List V)} {ys:Array Value},GridR N w S β size rows ys→ys.size=rows.length*size→
    (l.length=m.length)→(∀(k:Nat) (p:Nat×V) (q:Nat×Value),l[k]?=some p→m[k]?=some q→p.1=q.1∧Rel N w S β p.2 q.2)→fillRows size rows l=some rows'→
    ∃ys',Instr.fill (fun i=>some (i*size,size)) ys m=some ys'∧GridR N w S β size rows' ys'∧rows'.length=rows.length
 | [],[],rows,rows',ys,hg,hy,_,_,h=>by simp [fillRows] at h;subst h;exact ⟨ys,rfl,hg,rfl⟩
 | [],_::_,_,_,_,_,_,hl,_,_=>by simp at hl
 | _::_,[],_,_,_,_,_,hl,_,_=>by simp at hl
 | (i,v)::l,(i',x)::m,rows,rows',ys,hg,hy,hl,hr,h=>by
  obtain ⟨e1,hrel⟩:=hr 0 _ _ rfl rfl
  simp only at e1 hrel
  subst e1
  simp only [fillRows] at h
  split at h
  ·rename_i hcond
   obtain ⟨h1,h2,h3⟩:=hcond
   have hv:=hrel.cellsR h2
   have e:x.cells.zipIdx.foldl (fun cs (c,j)=>cs.setIfInBounds (i*size+j) c) ys=(x.cells.toList.zipIdx 0).foldl (fun cs (p:Value×Nat)=>cs.setIfInBounds (i*size+p.2) p.1) ys:=by
    rw [←Array.foldl_toList,Array.toList_zipIdx]
   obtain ⟨f1,f2⟩:=fold_put (i*size) x.cells.toList 0 ys
   have hin:i*size+size≤rows.length*size:=by
    have:(i+1)*size≤rows.length*size:=Nat.mul_le_mul_right _ h3
    rw [Nat.add_mul] at this;omega
   have hsz:x.cells.size=size:=by rw [hv.1,h1]
   have hg':GridR N w S β size (rows.set i v.cells) (x.cells.zipIdx.foldl (fun cs (c,j)=>cs.setIfInBounds (i*size+j) c) ys):=by
    rw [e]
    refine ⟨fun k row hk=>?_,by rw [f1,hy];simp,fun k row j c hk hj=>?_⟩
    ·rw [List.getElem?_set] at hk
     by_cases e2:i=k
     ·subst e2;simp [h3] at hk;rw [←hk];exact h1
     ·rw [if_neg e2] at hk;exact hg.1 k row hk
    ·rw [f2]
     rw [List.getElem?_set] at hk
     by_cases e2:i=k
     ·subst e2
      simp only [if_true,h3] at hk
      cases hk
      have hj':j < size:=by rw [←h1];exact (List.getElem?_eq_some_iff.1 hj).1
      rw [if_pos ⟨by omega,by simp [hsz];omega,by rw [hy];omega⟩]
      obtain ⟨y,g1,g2,g3⟩:=hv.get hj
      exact ⟨y,by simpa using g1,g2,g3⟩
     ·rw [if_neg e2] at hk
      have hk':=(List.getElem?_eq_some_iff.1 hk).1
      have hj':j < size:=by rw [←hg.1 k row hk];exact (List.getElem?_eq_some_iff.1 hj).1
      rw [if_neg ?_]
      ·exact hg.2.2 k row j c hk hj
      ·simp [hsz]
       intro h4 h5
       exfalso
       rcases Nat.lt_or_gt_of_ne e2 with e3|e3
       ·have:(i+1)*size≤k*size:=Nat.mul_le_mul_right _ e3
        rw [Nat.add_mul] at this;omega
       ·have:(k+1)*size≤i*size:=Nat.mul_le_mul_right _ e3
        rw [Nat.add_mul] at this;omega
   obtain ⟨ys',g1,g2,g3⟩:=bslice_fill (l:=l) (m:=m) hg' (by rw [e,f1,hy];simp) (by simpa using hl) (fun k p q hp hq=>hr (k+1) p q hp hq) h
   refine ⟨ys',?_,g2,by rw [g3];simp⟩
   simp only [Instr.fill]
   rw [if_neg (by simp [hsz];rw [hy];omega)]
   exact g1
  ·cases h
theorem evalParts1_rel {S:Nat→Prop} (ho:OpdOk C w S β ρ a):∀{ps:List (Nat×Operand)} {as:List (Nat×AOpd)} {vs:List (Nat×V)},C.T.parts1 ps=some as→evalParts1 ρ as=some vs→
    vs.length=ps.length∧∀(k:Nat) (p:Nat×V) (q:Nat×Value),vs[k]?=some p→(ps.map fun p=>(p.1,a.eval p.2))[k]?=some q→p.1=q.1∧Rel C.N w S β p.2 q.2
 | [],as,vs,h1,h2=>by
  simp [Tr.parts1] at h1;subst h1
  simp [evalParts1] at h2;subst h2
  exact ⟨rfl,fun k p q hp=>by simp at hp⟩
 | (i,x)::r,as,vs,h1,h2=>by
  simp only [Tr.parts1,Option.bind_eq_some_iff] at h1
  obtain ⟨y,hy,l,hl,h1⟩:=h1
  simp only [Option.some.injEq] at h1
  subst h1
  simp only [evalParts1,Option.bind_eq_some_iff] at h2
  obtain ⟨v,hv,vs',hvs,h2⟩:=h2
  simp only [Option.some.injEq] at h2
  subst h2
  obtain ⟨g1,g2⟩:=evalParts1_rel ho hl hvs
  refine ⟨by simp [g1],fun k p q hp hq=>?_⟩
  cases k with
  | zero=>simp at hp hq;subst hp;subst hq;exact ⟨rfl,ho x y v hy hv⟩
  | succ k=>simp at hp hq;exact g2 k p q hp (by simpa using hq)
theorem bslice_runs (hh:HeapR A C.N w β h) (hn:β n=none) (hhn:h n=none) (ho:OpdOk C w (Imm A w β h) β ρ a) {t e:TypeId} {size ln:Nat} {z:List V} {ps:Array (Nat×Operand)} {as:List (Nat×AOpd)} {vs:List (Nat×V)} {rows:List (List V)}
    (hu:C.T.P.underlying t=some (.slice e)) (hsz:C.T.size e=some size) (hz:C.T.zero e=some z) (hzl:z.length=size) (hln:ln*size≤16777216) (has:C.T.parts1 ps.toList=some as) (hv:evalParts1 ρ as=some vs) (hf:fillRows size (List.replicate ln z) vs=some rows) :
    Runs A C w β h n { v:=.ref n size 0 ln (some ln),new:=[.arr size rows] } (do pure (.value (←Instr.buildSlice t ln (ps.map fun (i,x)=>(i,a.eval x))))):=by
 obtain ⟨i,v,hi,hzv,hc⟩:=zero_rel (w:=w) (β:=β) hz (N:=C.N) (S:=Imm A w β h)
 subst hzl
 have hps:(ps.map fun (i,x)=>(i,a.eval x)).toList=ps.toList.map fun p=>(p.1,a.eval p.2):=by simp
 obtain ⟨p1,p2⟩:=evalParts1_rel ho has hv
 obtain ⟨ys,g1,g2,g3⟩:=bslice_fill (grid_zero hc ln) (by simp) (by simpa using p1) p2 hf
 simp at g3
 have hrun:(Instr.buildSlice t ln (ps.map fun (i,x)=>(i,a.eval x))).run C.T.P w=.ok (.slice (some ⟨w.heap.size,0,none⟩) ln ln) (w.alloc (.cells ys e)):=by
  by_cases h0:ln*z.length=0
  ·have e0:(Array.range (ln*z.length)).map (fun i=>v.cells[i % v.cells.size]!)=#[]:=by rw [h0];simp [Array.range_zero']
   rw [e0] at g1
   simp [Instr.buildSlice,run_underlying hu w,run_sizeOf' hsz w,h0,newRow,Array.range_zero',g1]
  ·have h1:¬(16777216 < ln*z.length):=by omega
   simp [Instr.buildSlice,run_underlying hu w,run_sizeOf' hsz w,h0,h1,newRow,run_zero hi hzv w,g1]
 refine runs_new (w':=w.alloc (.cells ys e)) (fz:=(0,0)) hh hn hhn rfl rfl hrun rfl rfl rfl rfl (by simp) g2 (fun β' S hb=>?_)
 have:=Rel.ref (N:=C.N) (w:=w.alloc (.cells ys e)) (S:=S) β' n z.length 0 ln (some ln) w.heap.size (some ⟨w.heap.size,0,none⟩) ln hb (fun k hk=>by cases hk;rfl) (Nat.le_refl _) (.inr (by simp)) (fun _=>⟨ys,e,(0,0),by rw [alloc_heap];simp,by have:=g2.2.1;rw [g3] at this;simpa using this,by simp⟩) (by simp)
 exact this
end
end Go.Proofs.YtigdhgbkgfagiaaGreat
namespace Go.Proofs.YtigdhgbkgfagiaaGreat
section
variable {A:Nat→Prop} {C:Ctx} {w:World} {β:Nat→Option Nat} {h:Nat→Option Blk} {n:Nat} {ρ:AOpd→Option V} {a:Act}
def SrcR (P:Program) (N:Nums) (w:World) (S:Nat→Prop) (β:Nat→Option Nat) (size:Nat) (rows:List (List V)) (x:Value):Prop:=
 ∃cs:List Value,cs.length=rows.length*size∧GridR N w S β size rows cs.toArray∧(∀v∈cs,v.oneCell'=true)∧(∀w',(Builtin.lenOf x).run P w'=.ok rows.length w')∧
  ∀(k:Nat) (w':World),k≤rows.length→(∀b,(S b∨∃a,β a=some b)→w'.heap[b]?=w.heap[b]?)→(Builtin.firstCells size k x).run P w'=.ok (cs.take (k*size)).toArray w'
theorem divmod_grid {i j size:Nat} (hj:j < size):(i*size+j) / size=i∧(i*size+j) % size=j:=by
 constructor
 ·rw [Nat.mul_comm,Nat.mul_add_div (by omega),Nat.div_eq_of_lt hj,Nat.add_zero]
 ·rw [Nat.mul_comm,Nat.mul_add_mod,Nat.mod_eq_of_lt hj]
theorem grid_split {k size len:Nat} (h:k < len*size):k / size < len∧k % size < size∧k / size*size+k % size=k:=by
 have hs:0 < size:=by
  rcases Nat.eq_zero_or_pos size with rfl|h0
  ·simp at h
  ·exact h0
 exact ⟨(Nat.div_lt_iff_lt_mul hs).2 h,Nat.mod_lt _ hs,Nat.div_add_mod' k size⟩
theorem src_mk {N:Nums} {S:Nat→Prop} {size:Nat} {rows:List (List V)} (hr:∀(i:Nat) (row:List V),rows[i]?=some row→row.length=size) (f:Nat→Nat→Value)
    (hf:∀(i:Nat) (row:List V) (j:Nat) (x:V),rows[i]?=some row→row[j]?=some x→(f i j).oneCell'=true∧Rel N w S β x (f i j)) :
    ∃cs:List Value,cs.length=rows.length*size∧GridR N w S β size rows cs.toArray∧(∀v∈cs,v.oneCell'=true)∧∀(k:Nat),k < rows.length*size→cs[k]?=some (f (k / size) (k % size)):=by
 have hcell:∀k,k < rows.length*size→∃row x,rows[k / size]?=some row∧row[k % size]?=some x:=fun k hk=>by
  obtain ⟨h1,h2,_⟩:=grid_split hk
  have h3:rows[k / size]?=some rows[k / size]:=List.getElem?_eq_getElem h1
  have h4:=hr _ _ h3
  exact ⟨_,_,h3,List.getElem?_eq_getElem (by omega)⟩
 refine ⟨(List.range (rows.length*size)).map fun k=>f (k / size) (k % size),by simp,⟨hr,by simp,fun i row j x hi hj=>?_⟩,fun v hv=>?_,fun k hk=>by simp [hk]⟩
 ·have hj':j < size:=by rw [←hr i row hi];exact (List.getElem?_eq_some_iff.1 hj).1
  have hi':=(List.getElem?_eq_some_iff.1 hi).1
  obtain ⟨h1,h2⟩:=hf i row j x hi hj
  obtain ⟨e1,e2⟩:=divmod_grid (i:=i) hj'
  exact ⟨f i j,by simp [grid_lt hi' hj',e1,e2],h1,h2⟩
 ·obtain ⟨k,hk,rfl⟩:=List.mem_map.1 hv
  rw [List.mem_range] at hk
  obtain ⟨row,x,h1,h2⟩:=hcell k hk
  exact (hf _ row _ x h1 h2).1
theorem take_get {cs:List Value} {k j:Nat} {v:Value} (h:(cs.take k)[j]?=some v):cs[j]?=some v∧j < k:=by
 rw [List.getElem?_take] at h
 split at h
 ·exact ⟨h,by assumption⟩
 ·cases h
theorem src_of (hh:HeapR A C.N w β h) {size:Nat} {x:V} {vx:Value} (hx:Rel C.N w (Imm A w β h) β x vx) {rows:List (List V)} {nd:List Nat} (hs:rowsOf size h x=some (rows,nd)):SrcR C.T.P C.N w (Imm A w β h) β size rows vx:=by
 cases hx with
 | lst _ size' rows' cap a c b off ys hc hlc ha hn hr hy hrel=>
  simp only [rowsOf] at hs
  split at hs
  ·rename_i hcond
   simp only [Option.some.injEq,Prod.mk.injEq] at hs
   obtain ⟨rfl,-⟩:=hs
   have hr':∀(i:Nat) (row:List V),rows'[i]?=some row→row.length=size:=fun i row hi=>by
    rcases hcond with rfl|h0
    ·exact hr i row hi
    ·rw [List.getElem?_eq_none (by omega)] at hi;cases hi
   obtain ⟨cs,c1,c2,c3,c4⟩:=src_mk (N:=C.N) (w:=w) (S:=Imm A w β h) (β:=β) hr' ys (fun i row j x hi hj=>⟨(hy i row j x hi hj).2,(hrel i row j x hi hj).mono (fun _ h=>h) (fun _ _=>rfl) (fun _ _ h=>h) (fun _ _ h=>by cases h)⟩)
   refine ⟨cs,c1,c2,c3,fun w'=>rfl,fun k w' hk hw'=>?_⟩
   by_cases h0:0 < rows'.length
   ·obtain ⟨rfl,hS⟩:=ha h0
    refine run_firstCells_some w' size k _ _ _ (cs.take (k*size)) (by rw [List.length_take,c1];exact Nat.min_eq_left (Nat.mul_le_mul_right _ hk)) (fun j v hv=>?_)
    obtain ⟨g1,g2⟩:=take_get hv
    have hj:j < rows'.length*size:=by rw [←c1];exact (List.getElem?_eq_some_iff.1 g1).1
    rw [c4 j hj] at g1
    cases g1
    obtain ⟨q1,q2,q3⟩:=grid_split hj
    have h3:rows'[j / size]?=some rows'[j / size]:=List.getElem?_eq_getElem q1
    have h4:=hr' _ _ h3
    have hsz:size'=size:=by rw [←hr _ _ h3,h4]
    have:=(hy _ _ _ _ h3 (List.getElem?_eq_getElem (i:=j % size) (by omega))).1
    rw [Addr.add_mid,cell_same (hw' b (.inl hS)),←this,hsz]
    congr 2
    omega
   ·have hk0:k=0:=by omega
    subst hk0
    have:cs.take (0*size)=[]:=by simp
    rw [this]
    cases a with
    | none=>simp [Builtin.firstCells]
    | some a=>simp [Builtin.firstCells,loadCells,loadCellsFrom]
  ·cases hs
 | str _ s=>
  simp only [rowsOf] at hs
  split at hs
  ·rename_i h1
   subst h1
   simp only [Option.some.injEq,Prod.mk.injEq] at hs
   obtain ⟨rfl,-⟩:=hs
   have hr':∀(i:Nat) (row:List V),(s.data.toList.map fun b=>[V.int .u8 b.toNat])[i]?=some row→row.length=1:=fun i row hi=>by
    rw [List.getElem?_map] at hi
    cases hq:s.data.toList[i]? with
    | none=>rw [hq] at hi;cases hi
    | some b=>rw [hq] at hi;simp at hi;rw [←hi];rfl
   obtain ⟨cs,c1,c2,c3,c4⟩:=src_mk (N:=C.N) (w:=w) (S:=Imm A w β h) (β:=β) hr' (fun i _=>.int .u8 ((s.data.toList[i]?).getD 0).toNat) (fun i row j x hi hj=>by
    rw [List.getElem?_map] at hi
    cases hq:s.data.toList[i]? with
    | none=>rw [hq] at hi;cases hi
    | some b=>
     rw [hq] at hi;simp only [Option.map_some,Option.some.injEq] at hi
     subst hi
     cases j with
     | zero=>simp at hj;subst hj;exact ⟨rfl,.int _ _ _⟩
     | succ j=>simp at hj)
   refine ⟨cs,c1,c2,c3,fun w'=>by simp [Builtin.lenOf],fun k w' hk hw'=>?_⟩
   simp only [Builtin.firstCells,Sem.run_pure,Result.ok.injEq,and_true]
   apply Array.ext'
   apply List.ext_getElem?
   intro j
   simp only [List.length_map] at hk
   simp only [Array.toList_map,List.getElem?_map,Nat.mul_one,List.getElem?_take]
   have hex:(s.extract 0 k).data.toList=s.data.toList.take k:=by
    simp [ByteArray.extract,ByteArray.copySlice]
   rw [hex,List.getElem?_take]
   by_cases hj:j < k
   ·rw [if_pos hj,if_pos hj,c4 j (by simp at hk ⊢;omega)]
    have:s.data.toList[j]?=some s.data.toList[j]:=List.getElem?_eq_getElem (by simp at hk ⊢;omega)
    have hj2:j < s.data.size:=by simpa using (List.getElem?_eq_some_iff.1 this).1
    have hgd:s.data[j]?=some (s.data[j]'hj2):=Array.getElem?_eq_getElem hj2
    simp [Nat.div_one,hgd]
   ·rw [if_neg hj,if_neg hj];rfl
  ·cases hs
 | ref _ a size' off len cap b x c hb hc hlc hx hm=>
  simp only [rowsOf] at hs
  cases hk:h a with
  | none=>rw [hk] at hs;cases hs
  | some kk=>
   cases kk with
   | loop=>rw [hk] at hs;cases hs
   | stop=>rw [hk] at hs;cases hs
   | map=>rw [hk] at hs;cases hs
   | iter=>rw [hk] at hs;cases hs
   | siter=>rw [hk] at hs;cases hs
   | junk=>rw [hk] at hs;cases hs
   | arr size'' rows'=>
    simp only [hk] at hs
    split at hs
    ·rename_i hcond
     obtain ⟨rfl,rfl,hle⟩:=hcond
     simp only [Option.some.injEq,Prod.mk.injEq] at hs
     obtain ⟨rfl,-⟩:=hs
     obtain ⟨b',h1,h2,h3⟩:=hh.at' a _ hk
     rw [hb] at h1;cases h1
     obtain ⟨cells,T,fz,g1,g2,g3,g4⟩:=h3
     have hrow:∀(i:Nat) (row:List V),((rows'.drop off).take len)[i]?=some row→rows'[off+i]?=some row∧i < len:=fun i row hi=>by
      rw [List.getElem?_take] at hi
      split at hi
      ·rw [List.getElem?_drop] at hi;exact ⟨hi,by assumption⟩
      ·cases hi
     obtain ⟨cs,c1,c2,c3,c4⟩:=src_mk (N:=C.N) (w:=w) (S:=Imm A w β h) (β:=β) (rows:=(rows'.drop off).take len) (size:=size'') (fun i row hi=>g3 _ _ (hrow i row hi).1) (fun i j=>(cells[(off+i)*size''+j]?).getD undef) (fun i row j x hi hj=>by
      obtain ⟨y,q1,q2,q3⟩:=g4 _ row j x (hrow i row hi).1 hj
      rw [q1];exact ⟨q2,q3⟩)
     have hlen:((rows'.drop off).take len).length=len:=by simp;omega
     refine ⟨cs,c1,c2,c3,fun w'=>by rw [hlen];rfl,fun k w' hk' hw'=>?_⟩
     rw [hlen] at hk'
     by_cases h0:k*size''=0
     ·have e1:cs.take (k*size'')=[]:=by rw [h0];simp
      rw [e1]
      cases x with
      | none=>simp [Builtin.firstCells]
      | some a=>simp [Builtin.firstCells,loadCells,h0,loadCellsFrom]
     ·have hc0:c≠0:=fun e=>by
        have:k=0:=by omega
        rw [this] at h0;simp at h0
      rcases hx with hx|hx
      ·exact absurd hx hc0
      ·subst hx
       refine run_firstCells_some w' size'' k _ _ _ (cs.take (k*size'')) (by rw [List.length_take,c1,hlen];exact Nat.min_eq_left (Nat.mul_le_mul_right _ hk')) (fun j v hv=>?_)
       obtain ⟨p1,p2⟩:=take_get hv
       have hj:j < ((rows'.drop off).take len).length*size'':=by rw [←c1];exact (List.getElem?_eq_some_iff.1 p1).1
       rw [c4 j hj] at p1
       cases p1
       obtain ⟨q1,q2,q3⟩:=grid_split hj
       have e2:(off+j / size'')*size''+j % size''=off*size''+j:=by rw [Nat.add_mul];omega
       rw [hlen] at q1
       have hlt:off*size''+j < cells.size:=by
        have:(off+j / size''+1)*size''≤rows'.length*size'':=Nat.mul_le_mul_right _ (by omega)
        have:=(g2 (off*size''+j) (by rw [←e2];exact grid_lt (by omega) q2)).1
        exact this
       rw [Addr.add_mid,cell_same (hw' b (.inr ⟨a,hb⟩)),e2]
       simp only [World.cell?,g1]
       simp [hlt]
    ·cases hs
 | _=>simp [rowsOf] at hs
structure AppT (T:Tr) (t u e:TypeId) (size bts:Nat):Prop where
 ht:T.P.underlying t=some (.slice e)
 hu:(∃e',T.P.underlying u=some (.slice e'))∨T.P.underlying u=some .string
 hs:T.size e=some size
 hb:T.bytes e=some bts
 hz:∃z,T.zero e=some z∧z.length=size
 h0:0 < size
 h1:0 < bts
theorem AppT.zeros {T:Tr} {t u e:TypeId} {size bts:Nat} (ha:AppT T t u e size bts) (w:World):((underlying u >>= fun d=>pure (d matches .int _):Sem Bool)).run T.P w=.ok false w:=by
 rcases ha.hu with ⟨e',h⟩|h <;> rw [Sem.run_bind,run_underlying h w] <;> rfl
theorem run_append_in {T:Tr} {t u e ty:TypeId} {size bts:Nat} (ha:AppT T t u e size bts) {base:Option Addr} {sLen sCap k:Nat} {vx:Value} {cs:List Value} {w2:World} (hl:(Builtin.lenOf vx).run T.P w=.ok k w) (hk:sLen+k≤sCap)
    (hf:(Builtin.firstCells size k vx).run T.P w=.ok cs.toArray w) (hst:(match base with|some a=>(storeCells (a.add (sLen*size)) cs).run T.P w|none=>.ok () w)=.ok () w2) :
    (Builtin.append_ #[t,u] ty #[.slice base sLen sCap,vx]).run T.P w=.ok (.slice base (sLen+k) sCap) w2:=by
 have hz:=ha.zeros w
 unfold Builtin.append_
 rcases ha.hu with ⟨e',hu⟩|hu
 all_goals
  cases base with
  | none=>simp at hst;subst hst;simp [run_underlying ha.ht w,run_underlying hu w,run_sizeOf' ha.hs w,hl,hk,hf]
  | some ad=>simp only at hst;simp [run_underlying ha.ht w,run_underlying hu w,run_sizeOf' ha.hs w,hl,hk,hf,hst]
theorem run_append_new {T:Tr} {t u e ty:TypeId} {size bts:Nat} (ha:AppT T t u e size bts) {base:Option Addr} {sLen sCap k:Nat} {vx:Value} {olds cs:List Value} (hl:(Builtin.lenOf vx).run T.P w=.ok k w) (hk:sCap < sLen+k)
    (ho:(Builtin.firstCells size sLen (.slice base sLen sCap)).run T.P w.drew=.ok olds.toArray w.drew) (hf:(Builtin.firstCells size k vx).run T.P w.drew=.ok cs.toArray w.drew) (hroom:(sLen+k)*bts≤140737488355328) :
    ∃(cap:Nat) (rest:List Value),sLen+k≤cap∧rest.length=(cap - (sLen+k))*size∧(Builtin.append_ #[t,u] ty #[.slice base sLen sCap,vx]).run T.P w=.ok (.slice (some ⟨w.heap.size,0,none⟩) (sLen+k) cap) (w.drew.alloc (.cells (olds++cs++rest).toArray e)):=by
 obtain ⟨z,hz,hzl⟩:=ha.hz
 obtain ⟨i,v,hi,hzv,hc⟩:=zero_rel (w:=w) (β:=fun _=>none) hz (N:=⟨fun _=>none,fun _=>none,fun _ _ _=>False⟩) (S:=fun _=>True)
 have hbi:i.bytes=bts:=by have:=ha.hb;unfold Tr.bytes at this;rw [hi] at this;simpa using this
 have hfit:=growslice_fits hk hroom
 have h1:=ha.h1
 have n1:¬(sLen+k≤sCap):=by omega
 have n3:¬(281474976710656 < Builtin.nextslicecap (sLen+k) sCap*i.bytes):=by rw [hbi];omega
 have n4:i.bytes≠0:=by omega
 refine ⟨grownCap w (sLen+k) sCap e,(Builtin.zeroCells v.cells (grownCap w (sLen+k) sCap e - (sLen+k))).toList,grownCap_ge _ _ _ _,by simp [size_zeroCells,hc.1,hzl],?_⟩
 unfold Builtin.append_
 rcases ha.hu with ⟨e',hu⟩|hu
 all_goals
  simp [run_underlying ha.ht w,run_underlying hu w,run_sizeOf' ha.hs w,hl,n1,n3,n4,Question.forced,ho,hf,newRow,grownCap,typeInfo,zeroValue,hi,hzv]
  try (congr 2;apply Array.ext';simp)
theorem grid_append {N:Nums} {S:Nat→Prop} {size:Nat} {rows ys:List (List V)} {cs ds rest:List Value} (h1:GridR N w S β size rows cs.toArray) (l1:cs.length=rows.length*size) (h2:GridR N w S β size ys ds.toArray) :
    GridR N w S β size (rows++ys) (cs++ds++rest).toArray:=by
 refine ⟨fun i row hi=>?_,?_,fun i row j x hi hj=>?_⟩
 ·rw [List.getElem?_append] at hi
  split at hi
  ·exact h1.1 i row hi
  ·exact h2.1 _ row hi
 ·have g:=h2.2.1
  simp at g
  simp [Nat.add_mul,l1];omega
 ·rw [List.getElem?_append] at hi
  split at hi
  ·rename_i hlt
   obtain ⟨y,q1,q2,q3⟩:=h1.2.2 i row j x hi hj
   refine ⟨y,?_,q2,q3⟩
   have hj':j < size:=by rw [←h1.1 i row hi];exact (List.getElem?_eq_some_iff.1 hj).1
   have:=grid_lt hlt hj'
   simp only [List.getElem?_toArray] at q1 ⊢
   rw [List.append_assoc,List.getElem?_append_left (by omega)];exact q1
  ·rename_i hge
   obtain ⟨y,q1,q2,q3⟩:=h2.2.2 _ row j x hi hj
   refine ⟨y,?_,q2,q3⟩
   simp only [List.getElem?_toArray] at q1 ⊢
   have e1:i*size+j=rows.length*size+((i - rows.length)*size+j):=by
    have:i=rows.length+(i - rows.length):=by omega
    conv=>lhs;rw [this]
    rw [Nat.add_mul];omega
   have hlt:=(List.getElem?_eq_some_iff.1 q1).1
   rw [List.append_assoc,List.getElem?_append_right (by omega),l1,e1,Nat.add_sub_cancel_left,List.getElem?_append_left hlt]
   exact q1
theorem over_length {l r:List (List V)} {k:Nat} (hk:k+r.length≤l.length):(over l k r).length=l.length:=by
 unfold over;simp;omega
theorem over_get {l r:List (List V)} {k:Nat} (hk:k+r.length≤l.length) (i:Nat):(over l k r)[i]?=if i < k then l[i]? else if i < k+r.length then r[i - k]? else l[i]?:=by
 unfold over
 by_cases h1:i < k
 ·rw [if_pos h1,List.append_assoc,List.getElem?_append_left (by simp;omega),List.getElem?_take,if_pos h1]
 ·have hlen:(l.take k).length=k:=by simp;omega
  rw [if_neg h1,List.append_assoc,List.getElem?_append_right (by omega),hlen]
  by_cases h2:i < k+r.length
  ·rw [if_pos h2,List.getElem?_append_left (by omega)]
  ·rw [if_neg h2,List.getElem?_append_right (by omega),List.getElem?_drop,show k+r.length+(i - k - r.length)=i by omega]
theorem blk_over {N:Nums} {S S':Nat→Prop} {size k:Nat} {rows ys:List (List V)} {b:Nat} (hb:BlkR N w S β (.arr size rows) b) {cs:List Value} (hl:cs.length=ys.length*size) (hg:GridR N w S β size ys cs.toArray) (hk:k+ys.length≤rows.length) {w':World}
    (hw':w'=w.setCells b (k*size) cs) (hS:∀b,S b→S' b) (hsame:∀b,S b→w'.heap[b]?=w.heap[b]?) (hroom:∀b m,Room w b m→Room w' b m):BlkR N w' S' β (.arr size (over rows k ys)) b:=by
 obtain ⟨cells,T,fz,g1,g2,g3,g4⟩:=hb
 have hin:k*size+cs.length≤rows.length*size:=by rw [hl,←Nat.add_mul];exact Nat.mul_le_mul_right _ hk
 have hfit:k*size+cs.length≤cells.size:=by
  by_cases h0:k*size+cs.length=0
  ·omega
  ·have:=(g2 (k*size+cs.length - 1) (by omega)).1;omega
 obtain ⟨cells',q1,q2,q3,q4⟩:=setCells_heap b T fz cs (k*size) w cells g1 hfit
 refine ⟨cells',T,fz,by rw [hw'];exact q1,fun o ho=>?_,fun i row hi=>?_,fun i row j x hi hj=>?_⟩
 ·rw [q2];exact g2 o (by rw [over_length hk] at ho;exact ho)
 ·rw [over_get hk] at hi
  split at hi
  ·exact g3 i row hi
  ·split at hi
   ·exact hg.1 _ row hi
   ·exact g3 i row hi
 ·rw [over_get hk] at hi
  by_cases e1:i < k
  ·rw [if_pos e1] at hi
   obtain ⟨y,p1,p2,p3⟩:=g4 i row j x hi hj
   have hj':j < size:=by rw [←g3 i row hi];exact (List.getElem?_eq_some_iff.1 hj).1
   exact ⟨y,by rw [q3 _ (.inl (grid_lt e1 hj'))];exact p1,p2,p3.mono hS hsame hroom (fun _ _ h=>h)⟩
  ·rw [if_neg e1] at hi
   by_cases e2:i < k+ys.length
   ·rw [if_pos e2] at hi
    obtain ⟨y,p1,p2,p3⟩:=hg.2.2 _ row j x hi hj
    simp only [List.getElem?_toArray] at p1
    have hlt:=(List.getElem?_eq_some_iff.1 p1).1
    have e3:i*size+j=k*size+((i - k)*size+j):=by
     have:i=k+(i - k):=by omega
     conv=>lhs;rw [this]
     rw [Nat.add_mul];omega
    exact ⟨y,by rw [e3,q4 _ hlt];exact p1,p2,p3.mono hS hsame hroom (fun _ _ h=>h)⟩
   ·rw [if_neg e2] at hi
    obtain ⟨y,p1,p2,p3⟩:=g4 i row j x hi hj
    refine ⟨y,?_,p2,p3.mono hS hsame hroom (fun _ _ h=>h)⟩
    rw [q3 _ (.inr ?_)]
    ·exact p1
    ·rw [hl,←Nat.add_mul]
     have:(k+ys.length)*size≤i*size:=Nat.mul_le_mul_right _ (by omega)
     omega
theorem drew_frame (w:World):w.drew.heap=w.heap∧w.drew.os=w.os∧w.drew.tape=w.tape∧w.drew.output=w.output:=⟨rfl,rfl,rfl,rfl⟩
theorem bdd {size k m:Nat} (h:k≤m):k*size≤m*size:=Nat.mul_le_mul_right _ h
theorem append_runs (hh:HeapR A C.N w β h)  {t u e ty:TypeId} {size bts:Nat} (ha:AppT C.T t u e size bts) {x y:V} {vx vy:Value} (hx:Rel C.N w (Imm A w β h) β x vx) (hy:Rel C.N w (Imm A w β h) β y vy) {ef:Eff}
    (he:appendV n size bts h x y=some ef) (hn:ef.new≠[]→β n=none) (hhn:ef.new≠[]→h n=none):Runs A C w β h n ef (do pure (.value (←Builtin.append_ #[t,u] ty #[vx,vy]))):=by
 simp only [appendV,Option.bind_eq_some_iff] at he
 obtain ⟨⟨ys,ny⟩,hys,he⟩:=he
 obtain ⟨ds,d1,d2,d3,d4,d5⟩:=src_of hh hy hys
 have hfull:∀w',(∀b,(Imm A w β h b∨∃a,β a=some b)→w'.heap[b]?=w.heap[b]?)→(Builtin.firstCells size ys.length vy).run C.T.P w'=.ok ds.toArray w':=fun w' hw'=>by
  have:=d5 ys.length w' (Nat.le_refl _) hw'
  rwa [List.take_of_length_le (by omega)] at this
 have hd:=drew_frame w
 cases hx with
 | lst _ size' rows cap a c b off zs hc hlc haa hnn hr hyy hrel hz0=>
  have hself:Rel C.N w (Imm A w β h) β (.lst size' rows cap) (.slice a rows.length c):=.lst _ size' rows cap a c b off zs hc hlc haa hnn hr hyy hrel hz0
  simp only at he
  split at he
  ·rename_i h0
   simp only [Option.some.injEq] at he
   subst he
   have hds:ds=[]:=List.eq_nil_of_length_eq_zero (by rw [d1,h0];simp)
   subst hds
   refine runs_same hh rfl rfl (x:=.slice a rows.length c) ?_ hself
   have:=run_append_in (w:=w) (w2:=w) (ty:=ty) ha (base:=a) (sLen:=rows.length) (sCap:=c) (d4 w) (by omega) (hfull w (fun _ _=>rfl)) (by cases a <;> simp [storeCells])
   rw [h0] at this
   exact this
  ·rename_i h0
   cases cap with
   | none=>simp at he
   | some cc=>
    simp only at he
    split at he
    ·rename_i hcond
     obtain ⟨k1,k2,k3⟩:=hcond
     simp only [Option.some.injEq] at he
     subst he
     have hcc:=hc cc rfl
     subst hcc
     have hrows:rowsOf size h (.lst size' rows (some c))=some (rows,[]):=by simp only [rowsOf,if_pos k2]
     obtain ⟨cs,c1,c2,c3,c4,c5⟩:=src_of hh hself hrows
     have hroom:(rows.length+ys.length)*bts≤140737488355328:=by simpa [roomOk] using k3
     have ho:(Builtin.firstCells size rows.length (.slice a rows.length c)).run C.T.P w.drew=.ok cs.toArray w.drew:=by
      have:=c5 rows.length w.drew (Nat.le_refl _) (fun _ _=>rfl)
      rwa [List.take_of_length_le (by omega)] at this
     obtain ⟨cap',rest,r1,r2,r3⟩:=run_append_new (w:=w) (ty:=ty) ha (base:=a) (sLen:=rows.length) (sCap:=c) (d4 w) k1 ho (hfull w.drew (fun _ _=>rfl)) hroom
     refine runs_new (fz:=(0,0)) hh (hn (by simp)) (hhn (by simp)) rfl rfl r3 rfl rfl rfl rfl (by simp) (grid_append c2 c1 d2) (fun β' S hb=>?_)
     refine .ref β' n size 0 _ none w.heap.size _ cap' hb (fun k hk=>by cases hk) r1 (.inr (by simp)) (fun _=>⟨_,e,(0,0),by rw [alloc_heap];simp [hd.1];rfl,?_,by simp⟩) (by simp)
     simp [c1,d1,r2,←Nat.add_mul]
     exact bdd (by omega)
    ·cases he
 | ref _ ab size' off len cap b xa c hb hc hlc hxa hm hnn=>
  simp only at he
  cases hk:h ab with
  | none=>rw [hk] at he;cases he
  | some kk=>
   cases kk with
   | loop=>rw [hk] at he;cases he
   | stop=>rw [hk] at he;cases he
   | map=>rw [hk] at he;cases he
   | iter=>rw [hk] at he;cases he
   | siter=>rw [hk] at he;cases he
   | junk=>rw [hk] at he;cases he
   | arr size'' rows=>
    simp only [hk] at he
    split at he
    ·rename_i hcond
     obtain ⟨rfl,rfl,hle⟩:=hcond
     obtain ⟨b',h1,h2,hblk⟩:=hh.at' ab _ hk
     rw [hb] at h1;cases h1
     have hself:Rel C.N w (Imm A w β h) β (.ref ab size'' off len cap) (.slice xa len c):=.ref _ ab size'' off len cap b xa c hb hc hlc hxa hm hnn
     have hrows:rowsOf size'' h (.ref ab size'' off len cap)=some ((rows.drop off).take len,[ab]):=by simp [rowsOf,hk,hle]
     obtain ⟨cs,c1,c2,c3,c4,c5⟩:=src_of hh hself hrows
     have hlen:((rows.drop off).take len).length=len:=by simp;omega
     have ho:(Builtin.firstCells size'' len (.slice xa len c)).run C.T.P w.drew=.ok cs.toArray w.drew:=by
      have:=c5 len w.drew (by omega) (fun _ _=>rfl)
      rwa [List.take_of_length_le (by rw [c1,hlen];exact Nat.le_refl _)] at this
     obtain ⟨cells,T,fz,g1,g2,g3,g4⟩:=id hblk
     cases cap with
     | some cc=>
      have hcc:=hc cc rfl
      subst hcc
      simp only at he
      split at he
      ·rename_i k1
       split at he
       ·rename_i k2
        simp only [Option.some.injEq] at he
        subst he
        by_cases h0:c=0
        ·have e1:len=0:=by omega
         have e2:ys.length=0:=by omega
         have hds:ds=[]:=List.eq_nil_of_length_eq_zero (by rw [d1,e2];simp)
         have hys0:ys=[]:=List.eq_nil_of_length_eq_zero e2
         subst hds;subst hys0;subst e1;subst h0
         have hrun:=run_append_in (w:=w) (w2:=w) (ty:=ty) ha (base:=xa) (sLen:=0) (sCap:=0) (d4 w) (by simp) (hfull w (fun _ _=>rfl)) (by cases xa <;> simp [storeCells])
         refine ⟨_,w,.inl (by rw [Sem.run_bind,hrun];rfl),effOk_upd (b:=b) (k':=.arr size'' (over rows (off+0) [])) hh hk hb rfl rfl (fun _ _=>rfl) (fun _ _ h=>h) rfl rfl rfl rfl (fun S hS=>?_) (fun S hS=>?_)⟩
         ·have:over rows (off+0) []=rows:=by simp [over]
          rw [this]
          exact hblk.mono rfl hS (fun _ _=>rfl) (fun _ _ h=>h) (fun _ _ h=>h)
         ·exact .ref _ ab size'' off _ (some 0) b xa 0 hb (fun k hk=>by cases hk;rfl) (by simp) (.inl rfl) (fun h=>absurd rfl h) hnn
        ·rcases hxa with hxa|hxa
         ·exact absurd hxa h0
         ·subst hxa
          have hin:(off+len)*size''+ds.length≤rows.length*size'':=by rw [d1,←Nat.add_mul];exact bdd (by omega)
          have hfit:(off+len)*size''+ds.length≤cells.size:=by
           by_cases h0:(off+len)*size''+ds.length=0
           ·omega
           ·have:=(g2 ((off+len)*size''+ds.length - 1) (by omega)).1;omega
          have hst:=run_storeCells_held (P:=C.T.P) g1 ds hfit (fun q hq _ hq2=>(g2 q (by omega)).2) d3
          have hrun:=run_append_in (w:=w) (w2:=w.setCells b ((off+len)*size'') ds) (ty:=ty) ha (base:=some ⟨b,off*size'',none⟩) (sLen:=len) (sCap:=c) (d4 w) k1 (hfull w (fun _ _=>rfl)) (by
           simp only [Addr.add_mid]
           rw [←Nat.add_mul];exact hst)
          obtain ⟨r1,r2,r3,r4,r5⟩:=setCells_same b ds ((off+len)*size'') w
          have hrm:=setCells_room b ds ((off+len)*size'') w g1 hfit
          have hsame:∀b0,Imm A w β h b0→(w.setCells b ((off+len)*size'') ds).heap[b0]?=w.heap[b0]?:=fun b0 hb0=>r1 b0 (fun e=>by subst e;exact hb0.free ⟨ab,by rw [hk];simp,hb⟩)
          refine ⟨_,w.setCells b ((off+len)*size'') ds,.inl (by rw [Sem.run_bind,hrun];rfl),effOk_upd (b:=b) (k':=.arr size'' (over rows (off+len) ys)) hh hk hb rfl rfl r1 hrm r2 r3 r4 r5 (fun S hS=>?_) (fun S hS=>?_)⟩
          ·exact blk_over hblk d1 d2 (by omega) rfl hS hsame hrm
          ·exact .ref _ ab size'' off _ (some c) b _ c hb (fun k hk=>by cases hk;rfl) k1 (.inr rfl) (fun h=>hrm _ _ (hm h)) (by simp)
       ·cases he
      ·rename_i k1
       split at he
       ·rename_i k3
        simp only [Option.some.injEq] at he
        subst he
        have hroom:(len+ys.length)*bts≤140737488355328:=by simpa [roomOk] using k3
        obtain ⟨cap',rest,r1,r2,r3⟩:=run_append_new (w:=w) (ty:=ty) ha (base:=xa) (sLen:=len) (sCap:=c) (d4 w) (by omega) ho (hfull w.drew (fun _ _=>rfl)) hroom
        refine runs_new (fz:=(0,0)) hh (hn (by simp)) (hhn (by simp)) rfl rfl r3 rfl rfl rfl rfl (by simp) (grid_append c2 c1 d2) (fun β' S hb=>?_)
        refine .ref β' n size'' 0 _ none w.heap.size _ cap' hb (fun k hk=>by cases hk) r1 (.inr (by simp)) (fun _=>⟨_,e,(0,0),by rw [alloc_heap];simp [hd.1];rfl,?_,by simp⟩) (by simp)
        rw [hlen] at c1
        simp [c1,d1,r2,←Nat.add_mul]
        exact bdd (by omega)
       ·cases he
     | none=>
      simp only at he
      split at he
      ·rename_i k1
       obtain ⟨rfl,hlr,k3⟩:=k1
       simp only [Option.some.injEq] at he
       subst he
       have hall:(rows.drop 0).take len=rows:=by rw [List.drop_zero,hlr,List.take_length]
       rw [hall] at c1 c2 c4 c5 hlen
       have hroom:(len+ys.length)*bts≤140737488355328:=by simpa [roomOk] using k3
       by_cases h0:c=0
       ·have e1:len=0:=by omega
        by_cases e2:ys.length=0
        ·have hds:ds=[]:=List.eq_nil_of_length_eq_zero (by rw [d1,e2];simp)
         have hys0:ys=[]:=List.eq_nil_of_length_eq_zero e2
         have hr0:rows=[]:=List.eq_nil_of_length_eq_zero (by omega)
         subst hds;subst hys0;subst h0
         have hrun:=run_append_in (w:=w) (w2:=w) (ty:=ty) ha (base:=xa) (sLen:=len) (sCap:=0) (d4 w) (by simp [e1]) (hfull w (fun _ _=>rfl)) (by cases xa <;> simp [storeCells])
         refine ⟨_,w,.inl (by rw [Sem.run_bind,hrun];rfl),effOk_move (b:=b) (k':=.arr size'' (rows++[])) hh hk hb (hn (by simp)) (hhn (by simp)) rfl rfl (fun _ _ _=>rfl) (fun _ _ h=>h) (Nat.le_refl _) rfl rfl rfl b (.inl rfl) (fun β' S hβ hbn hS=>?_) (fun β' S hβ hbn hS=>?_)⟩
         ·rw [List.append_nil]
          exact hblk.mono rfl hS (fun _ _=>rfl) (fun _ _ h=>h) hβ
         ·exact .ref _ n size'' 0 _ none b xa 0 hbn (fun k hk=>by cases hk) (by simp [e1]) (.inl rfl) (fun h=>absurd rfl h) hnn
        ·obtain ⟨cap',rest,r1,r2,r3⟩:=run_append_new (w:=w) (ty:=ty) ha (base:=xa) (sLen:=len) (sCap:=c) (d4 w) (by omega) ho (hfull w.drew (fun _ _=>rfl)) hroom
         have hga:=grid_append (rest:=rest) c2 c1 d2
         refine ⟨_,w.drew.alloc (.cells (cs++ds++rest).toArray e),.inl (by rw [Sem.run_bind,r3];rfl),effOk_move (b:=b) (k':=.arr size'' (rows++ys)) hh hk hb (hn (by simp)) (hhn (by simp)) rfl rfl (fun c' _ hc'=>by rw [alloc_heap,Array.getElem?_push,if_neg (by rw [hd.1];omega),hd.1]) (fun b0 m0 ⟨q1,q2,q3,q4,q5⟩=>⟨q1,q2,q3,by rw [alloc_heap,Array.getElem?_push,if_neg (by rw [hd.1];have:=(Array.getElem?_eq_some_iff.1 q4).1;omega),hd.1];exact q4,q5⟩) (by rw [alloc_heap];simp [hd.1]) rfl rfl rfl w.heap.size (.inr ⟨rfl,by rw [alloc_heap];simp [hd.1]⟩) (fun β' S hβ hbn hS=>?_) (fun β' S hβ hbn hS=>?_)⟩
         ·refine (hga.mono hS (fun b0 hb0=>?_) (fun b0 m0 ⟨q1,q2,q3,q4,q5⟩=>?_) hβ).blk (T:=e) (fz:=(0,0)) ?_ (by simp)
          ·rw [alloc_heap,Array.getElem?_push,if_neg (by rw [hd.1];have:=hb0.lt;omega),hd.1]
          ·exact ⟨q1,q2,q3,by rw [alloc_heap,Array.getElem?_push,if_neg (by rw [hd.1];have:=(Array.getElem?_eq_some_iff.1 q4).1;omega),hd.1];exact q4,q5⟩
          ·rw [alloc_heap,hd.1];simp
         ·refine .ref β' n size'' 0 _ none w.heap.size _ cap' hbn (fun k hk=>by cases hk) r1 (.inr (by simp)) (fun _=>⟨_,e,(0,0),by rw [alloc_heap];simp [hd.1];rfl,?_,by simp⟩) (by simp)
          rw [hlen] at c1
          simp [c1,d1,r2,←Nat.add_mul]
          exact bdd (by omega)
       ·rcases hxa with hxa|hxa
        ·exact absurd hxa h0
        ·subst hxa
         by_cases hin:len+ys.length≤c
         ·obtain ⟨cells2,T2,fz2,m1,m2,m3⟩:=hm h0
          rw [g1] at m1
          cases m1
          have hfit2:(0+len)*size''+ds.length≤(0+c)*size'':=by rw [d1,←Nat.add_mul];exact bdd (by omega)
          have hfit:(0+len)*size''+ds.length≤cells.size:=Nat.le_trans hfit2 m2
          have hst:=run_storeCells_held (P:=C.T.P) g1 ds hfit (fun q hq _ hq2=>m3 q (by omega)) d3
          have hrun:=run_append_in (w:=w) (w2:=w.setCells b ((0+len)*size'') ds) (ty:=ty) ha (base:=some ⟨b,0*size'',none⟩) (sLen:=len) (sCap:=c) (d4 w) hin (hfull w (fun _ _=>rfl)) (by
           simp only [Addr.add_mid]
           rw [←Nat.add_mul];exact hst)
          obtain ⟨r1,r2,r3,r4,r5⟩:=setCells_same b ds ((0+len)*size'') w
          have hrm:=setCells_room b ds ((0+len)*size'') w g1 hfit
          have hsame:∀b0,Imm A w β h b0→(w.setCells b ((0+len)*size'') ds).heap[b0]?=w.heap[b0]?:=fun b0 hb0=>r1 b0 (fun e=>by subst e;exact hb0.free ⟨ab,by rw [hk];simp,hb⟩)
          obtain ⟨cells',q1,q2,q3,q4⟩:=setCells_heap b T fz ds ((0+len)*size'') w cells g1 hfit
          refine ⟨_,w.setCells b ((0+len)*size'') ds,.inl (by rw [Sem.run_bind,hrun];rfl),effOk_move (b:=b) (k':=.arr size'' (rows++ys)) hh hk hb (hn (by simp)) (hhn (by simp)) rfl rfl (fun c' hc' _=>r1 c' hc') hrm (by rw [r2];exact Nat.le_refl _) r3 r4 r5 b (.inl rfl) (fun β' S hβ hbn hS=>?_) (fun β' S hβ hbn hS=>?_)⟩
          ·refine ⟨cells',T,fz,q1,fun o ho=>?_,fun i row hi=>?_,fun i row j x hi hj=>?_⟩
           ·rw [q2]
            have:o < (0+c)*size'':=by
             rw [List.length_append,Nat.add_mul] at ho
             rw [d1] at hfit2
             rw [Nat.zero_add,hlr] at hfit2;omega
            exact ⟨Nat.lt_of_lt_of_le this m2,m3 o this⟩
           ·rw [List.getElem?_append] at hi
            split at hi
            ·exact g3 i row hi
            ·exact d2.1 _ row hi
           ·rw [List.getElem?_append] at hi
            split at hi
            ·rename_i hlt
             obtain ⟨y',p1,p2,p3⟩:=g4 i row j x hi hj
             have hj':j < size'':=by rw [←g3 i row hi];exact (List.getElem?_eq_some_iff.1 hj).1
             exact ⟨y',by rw [q3 _ (.inl (by rw [Nat.zero_add,hlr];exact grid_lt hlt hj'))];exact p1,p2,p3.mono hS hsame hrm hβ⟩
            ·rename_i hge
             obtain ⟨y',p1,p2,p3⟩:=d2.2.2 _ row j x hi hj
             simp only [List.getElem?_toArray] at p1
             have hlt:=(List.getElem?_eq_some_iff.1 p1).1
             have e3:i*size''+j=(0+len)*size''+((i - rows.length)*size''+j):=by
              have:i=rows.length+(i - rows.length):=by omega
              conv=>lhs;rw [this]
              rw [Nat.add_mul,Nat.zero_add,hlr];omega
             exact ⟨y',by rw [e3,q4 _ hlt];exact p1,p2,p3.mono hS hsame hrm hβ⟩
          ·exact .ref _ n size'' 0 _ none b _ c hbn (fun k hk=>by cases hk) hin (.inr rfl) (fun h=>hrm _ _ (hm h)) (by simp)
         ·obtain ⟨cap',rest,r1,r2,r3⟩:=run_append_new (w:=w) (ty:=ty) ha (base:=some ⟨b,0*size'',none⟩) (sLen:=len) (sCap:=c) (d4 w) (by omega) ho (hfull w.drew (fun _ _=>rfl)) hroom
          have hga:=grid_append (rest:=rest) c2 c1 d2
          refine ⟨_,w.drew.alloc (.cells (cs++ds++rest).toArray e),.inl (by rw [Sem.run_bind,r3];rfl),effOk_move (b:=b) (k':=.arr size'' (rows++ys)) hh hk hb (hn (by simp)) (hhn (by simp)) rfl rfl (fun c' _ hc'=>by rw [alloc_heap,Array.getElem?_push,if_neg (by rw [hd.1];omega),hd.1]) (fun b0 m0 ⟨q1,q2,q3,q4,q5⟩=>⟨q1,q2,q3,by rw [alloc_heap,Array.getElem?_push,if_neg (by rw [hd.1];have:=(Array.getElem?_eq_some_iff.1 q4).1;omega),hd.1];exact q4,q5⟩) (by rw [alloc_heap];simp [hd.1]) rfl rfl rfl w.heap.size (.inr ⟨rfl,by rw [alloc_heap];simp [hd.1]⟩) (fun β' S hβ hbn hS=>?_) (fun β' S hβ hbn hS=>?_)⟩
          ·refine (hga.mono hS (fun b0 hb0=>?_) (fun b0 m0 ⟨q1,q2,q3,q4,q5⟩=>?_) hβ).blk (T:=e) (fz:=(0,0)) ?_ (by simp)
           ·rw [alloc_heap,Array.getElem?_push,if_neg (by rw [hd.1];have:=hb0.lt;omega),hd.1]
           ·exact ⟨q1,q2,q3,by rw [alloc_heap,Array.getElem?_push,if_neg (by rw [hd.1];have:=(Array.getElem?_eq_some_iff.1 q4).1;omega),hd.1];exact q4,q5⟩
           ·rw [alloc_heap,hd.1];simp
          ·refine .ref β' n size'' 0 _ none w.heap.size _ cap' hbn (fun k hk=>by cases hk) r1 (.inr (by simp)) (fun _=>⟨_,e,(0,0),by rw [alloc_heap];simp [hd.1];rfl,?_,by simp⟩) (by simp)
           rw [hlen] at c1
           simp [c1,d1,r2,←Nat.add_mul]
           exact bdd (by omega)
      ·cases he
    ·cases he
 | _=>simp at he
end
end Go.Proofs.YtigdhgbkgfagiaaGreat
namespace Go.Proofs.YtigdhgbkgfagiaaGreat
section
variable {A:Nat→Prop} {C:Ctx} {w:World} {β:Nat→Option Nat} {h:Nat→Option Blk} {n:Nat} {ρ:AOpd→Option V} {a:Act}
theorem run_copy_in {T:Tr} {t u e ty:TypeId} {size:Nat} (ht:T.P.underlying t=some (.slice e)) (hs:T.size e=some size) {base:Option Addr} {dLen dCap k:Nat} {vx:Value} {cs:List Value} {w2:World} (hl:(Builtin.lenOf vx).run T.P w=.ok k w)
    (hf:(Builtin.firstCells size (Nat.min k dLen) vx).run T.P w=.ok cs.toArray w) (hst:(match base with|some a=>(storeCells a cs).run T.P w|none=>.ok () w)=.ok () w2) :
    (Builtin.copy_ #[t,u] ty #[.slice base dLen dCap,vx]).run T.P w=.ok (goInt (Nat.min k dLen)) w2:=by
 have hf':(Builtin.firstCells size (Nat.min k dLen) vx).run T.P w=.ok cs.toArray w:=hf
 unfold Builtin.copy_
 cases base with
 | none=>simp only at hst;cases hst;simp [run_underlying ht w,run_sizeOf' hs w,hl];rw [hf];simp
 | some ad=>simp only at hst;simp [run_underlying ht w,run_sizeOf' hs w,hl];rw [hf];simp [hst]
theorem copy_runs (hh:HeapR A C.N w β h) {t u e ty:TypeId} {size:Nat} (ht:C.T.P.underlying t=some (.slice e)) (hs:C.T.size e=some size) {x y:V} {vx vy:Value} (hx:Rel C.N w (Imm A w β h) β x vx) (hy:Rel C.N w (Imm A w β h) β y vy) {ef:Eff}
    (he:copyV size h x y=some ef):Runs A C w β h n ef (do pure (.value (←Builtin.copy_ #[t,u] ty #[vx,vy]))):=by
 simp only [copyV,Option.bind_eq_some_iff] at he
 obtain ⟨⟨ys,ny⟩,hys,he⟩:=he
 obtain ⟨ds,d1,d2,d3,d4,d5⟩:=src_of hh hy hys
 cases hx with
 | lst _ size' rows cap aa c b off zs hc hlc haa hnn hr hyy hrel=>
  simp only at he
  split at he
  ·rename_i h0
   simp only [Option.some.injEq] at he
   subst he
   have hm:Nat.min ys.length rows.length=0:=by rcases h0 with h0|h0 <;> rw [h0] <;> simp
   have hf:=d5 0 w (Nat.zero_le _) (fun _ _=>rfl)
   simp only [Nat.zero_mul,List.take_zero] at hf
   have hrun:=run_copy_in (w:=w) (w2:=w) (u:=u) (ty:=ty) ht hs (base:=aa) (dLen:=rows.length) (dCap:=c) (d4 w) (by rw [hm];exact hf) (by cases aa <;> simp [storeCells])
   rw [hm] at hrun
   exact runs_same hh rfl rfl hrun (.int _ _ _)
  ·cases he
 | ref _ ab size' off len cap b xa c hb hc hlc hxa hm=>
  simp only at he
  cases hk:h ab with
  | none=>rw [hk] at he;cases he
  | some kk=>
   cases kk with
   | loop=>rw [hk] at he;cases he
   | stop=>rw [hk] at he;cases he
   | map=>rw [hk] at he;cases he
   | iter=>rw [hk] at he;cases he
   | siter=>rw [hk] at he;cases he
   | junk=>rw [hk] at he;cases he
   | arr size'' rows=>
    simp only [hk] at he
    split at he
    ·rename_i hcond
     obtain ⟨rfl,rfl,hle⟩:=hcond
     simp only [Option.some.injEq] at he
     subst he
     obtain ⟨b',h1,h2,hblk⟩:=hh.at' ab _ hk
     rw [hb] at h1;cases h1
     obtain ⟨cells,T,fz,g1,g2,g3,g4⟩:=id hblk
     have hmin:Nat.min ys.length len≤ys.length:=Nat.min_le_left _ _
     have hf:=d5 (Nat.min ys.length len) w hmin (fun _ _=>rfl)
     have htl:(ys.take len).length=Nat.min ys.length len:=by rw [List.length_take,Nat.min_comm]
     have hdl:(ds.take (Nat.min ys.length len*size'')).length=(ys.take len).length*size'':=by rw [htl,List.length_take,d1];exact Nat.min_eq_left (Nat.mul_le_mul_right _ hmin)
     have hgd:GridR C.N w (Imm A w β h) β size'' (ys.take len) (ds.take (Nat.min ys.length len*size'')).toArray:=by
      refine ⟨fun i row hi=>?_,by simp only [List.size_toArray];rw [hdl];exact Nat.le_refl _,fun i row j x hi hj=>?_⟩
      ·rw [List.getElem?_take] at hi
       split at hi
       ·exact d2.1 i row hi
       ·cases hi
      ·have hi0:=hi
       rw [List.getElem?_take] at hi
       split at hi
       ·obtain ⟨y,q1,q2,q3⟩:=d2.2.2 i row j x hi hj
        refine ⟨y,?_,q2,q3⟩
        have hj':j < size'':=by rw [←d2.1 i row hi];exact (List.getElem?_eq_some_iff.1 hj).1
        have hlt:i < Nat.min ys.length len:=by rw [←htl];exact (List.getElem?_eq_some_iff.1 hi0).1
        simp only [List.getElem?_toArray] at q1 ⊢
        rw [List.getElem?_take,if_pos (grid_lt hlt hj')];exact q1
       ·cases hi
     have hone:∀v∈ds.take (Nat.min ys.length len*size''),v.oneCell'=true:=fun v hv=>d3 v (List.mem_of_mem_take hv)
     by_cases h0:c=0
     ·have e1:len=0:=by omega
      subst e1
      have hnil:ds.take (Nat.min ys.length 0*size'')=[]:=List.eq_nil_of_length_eq_zero (by rw [hdl];simp)
      have hrun:=run_copy_in (w:=w) (w2:=w) (u:=u) (ty:=ty) ht hs (base:=xa) (dLen:=0) (dCap:=c) (d4 w) hf (by rw [hnil];cases xa <;> simp [storeCells])
      refine ⟨_,w,.inl (by rw [Sem.run_bind,hrun];rfl),effOk_upd (b:=b) (k':=.arr size'' (over rows off (ys.take 0))) hh hk hb rfl rfl (fun _ _=>rfl) (fun _ _ h=>h) rfl rfl rfl rfl (fun S hS=>?_) (fun S hS=>.int _ _ _)⟩
      have:over rows off (ys.take 0)=rows:=by simp [over]
      rw [this]
      exact hblk.mono rfl hS (fun _ _=>rfl) (fun _ _ h=>h) (fun _ _ h=>h)
     ·rcases hxa with hxa|hxa
      ·exact absurd hxa h0
      ·subst hxa
       have hle2:off+(ys.take len).length≤rows.length:=by rw [htl];have:Nat.min ys.length len≤len:=Nat.min_le_right _ _;omega
       have hin:off*size''+(ds.take (Nat.min ys.length len*size'')).length≤rows.length*size'':=by rw [hdl,←Nat.add_mul];exact bdd hle2
       have hfit:off*size''+(ds.take (Nat.min ys.length len*size'')).length≤cells.size:=by
        by_cases h0:off*size''+(ds.take (Nat.min ys.length len*size'')).length=0
        ·omega
        ·have:=(g2 (off*size''+(ds.take (Nat.min ys.length len*size'')).length - 1) (by omega)).1;omega
       have hst:=run_storeCells_held (P:=C.T.P) g1 _ hfit (fun q hq _ hq2=>(g2 q (by omega)).2) hone
       have hrun:=run_copy_in (w:=w) (u:=u) (ty:=ty) ht hs (base:=some ⟨b,off*size'',none⟩) (dLen:=len) (dCap:=c) (d4 w) hf hst
       obtain ⟨r1,r2,r3,r4,r5⟩:=setCells_same b (ds.take (Nat.min ys.length len*size'')) (off*size'') w
       have hrm:=setCells_room b (ds.take (Nat.min ys.length len*size'')) (off*size'') w g1 hfit
       have hsame:∀b0,Imm A w β h b0→(w.setCells b (off*size'') (ds.take (Nat.min ys.length len*size''))).heap[b0]?=w.heap[b0]?:=fun b0 hb0=>r1 b0 (fun e=>by subst e;exact hb0.free ⟨ab,by rw [hk];simp,hb⟩)
       refine ⟨_,w.setCells b (off*size'') (ds.take (Nat.min ys.length len*size'')),.inl (by rw [Sem.run_bind,hrun];rfl),effOk_upd (b:=b) (k':=.arr size'' (over rows off (ys.take len))) hh hk hb rfl rfl r1 hrm r2 r3 r4 r5 (fun S hS=>?_) (fun S hS=>.int _ _ _)⟩
       exact blk_over hblk hdl hgd hle2 rfl hS hsame hrm
    ·cases he
 | _=>simp at he
theorem clr_runs (hh:HeapR A C.N w β h) {t e ty:TypeId} {size:Nat} {z:List V} (ht:C.T.P.underlying t=some (.slice e)) (hs:C.T.size e=some size) (hz:C.T.zero e=some z) (hzl:z.length=size) {x:V} {vx:Value} (hx:Rel C.N w (Imm A w β h) β x vx) {ef:Eff} (he:clrV size z h x=some ef) :
    Runs A C w β h n ef (do pure (.value (←Builtin.clear_ #[t] ty #[vx]))):=by
 obtain ⟨i,v,hi,hzv,hc⟩:=zero_rel (w:=w) (β:=β) hz (N:=C.N) (S:=Imm A w β h)
 have hzr:=fun w=>run_zero (T:=C.T) hi hzv w
 cases hx with
 | lst _ size' rows cap aa c b off zs hc1 hlc haa hnn hr hyy hrel hz0=>
  simp only [clrV] at he
  split at he
  ·rename_i h0
   simp only [Option.some.injEq] at he
   subst he
   refine runs_same hh rfl rfl (x:=.tuple #[]) ?_ (.tup _ [] #[] rfl (fun i c y hc=>by simp at hc))
   unfold Builtin.clear_
   rw [h0]
   cases aa <;> simp [run_underlying ht]
  ·cases he
 | ref _ ab size' off len cap b xa c hb hcc hlc hxa hm hnn=>
  simp only [clrV] at he
  cases hk:h ab with
  | none=>rw [hk] at he;cases he
  | some kk=>
   cases kk with
   | loop=>rw [hk] at he;cases he
   | stop=>rw [hk] at he;cases he
   | map=>rw [hk] at he;cases he
   | iter=>rw [hk] at he;cases he
   | siter=>rw [hk] at he;cases he
   | junk=>rw [hk] at he;cases he
   | arr size'' rows=>
    simp only [hk] at he
    split at he
    ·rename_i hcond
     obtain ⟨rfl,rfl,hle⟩:=hcond
     simp only [Option.some.injEq] at he
     subst he
     obtain ⟨b',h1,h2,hblk⟩:=hh.at' ab _ hk
     rw [hb] at h1;cases h1
     obtain ⟨cells,T,fz,g1,g2,g3,g4⟩:=id hblk
     obtain ⟨xa,rfl⟩:=Option.ne_none_iff_exists'.1 hnn
     by_cases h0:len=0
     ·subst h0
      refine ⟨.tuple #[],w,.inl ?_,effOk_upd (b:=b) (k':=.arr size'' (over rows off (List.replicate 0 z))) hh hk hb rfl rfl (fun _ _=>rfl) (fun _ _ h=>h) rfl rfl rfl rfl (fun S hS=>?_) (fun S hS=>.tup _ [] #[] rfl (fun i c y hc=>by simp at hc))⟩
      ·unfold Builtin.clear_
       simp [run_underlying ht]
      ·have:over rows off (List.replicate 0 z)=rows:=by simp [over]
       rw [this]
       exact hblk.mono rfl hS (fun _ _=>rfl) (fun _ _ h=>h) (fun _ _ h=>h)
     ·rcases hxa with hxa|hxa
      ·omega
      ·cases hxa
       have hg:=grid_zero hc len
       rw [hzl] at hg
       have hzs:v.cells.size=size'':=by rw [hc.1];exact hzl
       have hcs:Builtin.zeroCells v.cells len=(Array.range (len*size'')).map (fun i=>v.cells[i % v.cells.size]!):=by unfold Builtin.zeroCells;rw [hzs]
       rw [←hcs] at hg
       obtain ⟨ds,hds⟩:∃ds,ds=(Builtin.zeroCells v.cells len).toList:=⟨_,rfl⟩
       have hdl:ds.length=(List.replicate len z).length*size'':=by rw [hds,hcs];simp
       have hgd:GridR C.N w (Imm A w β h) β size'' (List.replicate len z) ds.toArray:=by rw [hds];simpa using hg
       have hle2:off+(List.replicate len z).length≤rows.length:=by simpa using hle
       have hin:off*size''+ds.length≤rows.length*size'':=by rw [hdl,←Nat.add_mul];exact bdd hle2
       have hfit:off*size''+ds.length≤cells.size:=by
        by_cases h0:off*size''+ds.length=0
        ·omega
        ·have:=(g2 (off*size''+ds.length - 1) (by omega)).1;omega
       have hone:∀u∈ds,u.oneCell'=true:=fun u hu=>by
        rw [hds,hcs] at hu
        simp only [Array.toList_map,List.mem_map,Array.mem_toList_iff,Array.mem_range] at hu
        obtain ⟨q,hq,rfl⟩:=hu
        have hpos:0 < v.cells.size:=by
         rw [hzs]
         rcases Nat.eq_zero_or_pos size'' with e|e
         ·rw [e] at hq;simp at hq
         ·exact e
        have hlt:q % v.cells.size < v.cells.size:=Nat.mod_lt _ hpos
        rw [getElem!_pos v.cells _ hlt]
        exact hc.2.1 _ _ (Array.getElem?_eq_getElem hlt)
       have hst:=run_storeCells_held (P:=C.T.P) g1 ds hfit (fun q hq _ hq2=>(g2 q (by omega)).2) hone
       obtain ⟨r1,r2,r3,r4,r5⟩:=setCells_same b ds (off*size'') w
       have hrm:=setCells_room b ds (off*size'') w g1 hfit
       have hsame:∀b0,Imm A w β h b0→(w.setCells b (off*size'') ds).heap[b0]?=w.heap[b0]?:=fun b0 hb0=>r1 b0 (fun e=>by subst e;exact hb0.free ⟨ab,by rw [hk];simp,hb⟩)
       refine ⟨.tuple #[],w.setCells b (off*size'') ds,.inl ?_,effOk_upd (b:=b) (k':=.arr size'' (over rows off (List.replicate len z))) hh hk hb rfl rfl r1 hrm r2 r3 r4 r5 (fun S hS=>?_) (fun S hS=>.tup _ [] #[] rfl (fun i c y hc=>by simp at hc))⟩
       ·obtain ⟨l',rfl⟩:∃l',len=l'+1:=⟨len - 1,by omega⟩
        have hrun:(Builtin.clear_ #[t] ty #[.slice (some ⟨b,off*size'',none⟩) (l'+1) c]).run C.T.P w=.ok (.tuple #[]) (w.setCells b (off*size'') ds):=by
         unfold Builtin.clear_
         simp only [List.getElem?_toArray,List.getElem?_cons_zero]
         rw [Sem.run_bind,run_underlying ht w,Result.andThen_ok]
         simp only [Sem.run_bind,hzr,Result.andThen_ok,←hds,hst]
         rfl
        rw [Sem.run_bind,hrun];rfl
       ·exact blk_over hblk hdl hgd hle2 rfl hS hsame hrm
    ·cases he
 | _=>simp [clrV] at he
theorem nat?_rel {S:Nat→Prop} {x:V} {vx:Value} (hx:Rel C.N w S β x vx) {k:Nat} (hk:x.nat?=some k):∃q,vx=.int q (k:Int):=by
 cases hx with
 | int _ q m=>
  simp only [V.nat?] at hk
  split at hk
  ·simp only [Option.some.injEq] at hk
   subst hk
   refine ⟨q,?_⟩
   congr 1
   omega
  ·cases hk
 | _=>simp [V.nat?] at hk
def OptR:Option Nat→Option Value→Prop
 | none,none=>True
 | some k,some v=>∃q,v=.int q (k:Int)
 | _,_=>False
theorem opt_rel {S:Nat→Prop} (ho:OpdOk C w S β ρ a) {x:Option Operand} {y:Option AOpd} (hxy:C.T.odd x=some y) {k:Option Nat} (hk:optNat? ρ y=some k):OptR k (x.map a.eval):=by
 cases x with
 | none=>simp [Tr.odd] at hxy;subst hxy;simp [optNat?] at hk;subst hk;trivial
 | some x=>
  simp only [Tr.odd,Option.map_eq_some_iff] at hxy
  obtain ⟨y',hy',rfl⟩:=hxy
  simp only [optNat?,Option.map_eq_some_iff,Option.bind_eq_some_iff] at hk
  obtain ⟨k',⟨v,hv,hk'⟩,rfl⟩:=hk
  exact nat?_rel (ho x y' v hy' hv) hk'
theorem run_bounds {P:Program} {b:Bool} {len cap:Nat} {lo hi mx:Option Nat} {vl vh vm:Option Value} (hl:OptR lo vl) (hh:OptR hi vh) (hm:OptR mx vm) (hmh:mx.isSome=true→hi.isSome=true) (h1:lo.getD 0≤hi.getD len) (h2:hi.getD len≤mx.getD cap) (h3:mx.getD cap≤cap) (w:World) :
    (Instr.sliceBounds b len cap vl vh vm).run P w=.ok (lo.getD 0,hi.getD len,mx.getD cap) w:=by
 have key:∀(q:IntKind) (k y:Nat) (c:BoundsCode),k≤y→(Instr.sliceBound (.int q (k:Int)) y c).run P w=.ok k w:=fun q k y c hk=>by
  simp [Instr.sliceBound,asIntOf,hk]
 unfold Instr.sliceBounds
 cases lo <;> cases vl <;> simp only [OptR] at hl <;> cases hi <;> cases vh <;> simp only [OptR] at hh <;> cases mx <;> cases vm <;> simp only [OptR] at hm <;> simp only [Option.getD_none,Option.getD_some] at h1 h2 h3 <;> try (simp at hmh)
 all_goals (try obtain ⟨q1,rfl⟩:=hl)
 all_goals (try obtain ⟨q2,rfl⟩:=hh)
 all_goals (try obtain ⟨q3,rfl⟩:=hm)
 all_goals simp only [Sem.run_bind,Sem.run_pure,Option.getD_none,Option.getD_some,pure_bind]
 all_goals (repeat rw [key _ _ _ _ (by omega)])
 all_goals (try simp only [Result.andThen_ok])
 all_goals (try simp only [Sem.run_bind])
 all_goals (repeat rw [key _ _ _ _ (by omega)])
 all_goals (try simp only [Result.andThen_ok])
 all_goals (repeat rw [key _ _ _ _ (by omega)])
 all_goals (try rfl)
theorem slice_runs (hh:HeapR A C.N w β h) (ho:OpdOk C w (Imm A w β h) β ρ a) {t e:TypeId} {size:Nat} (hu:C.T.P.underlying t=some (.slice e)) (hs:C.T.size e=some size) {lo hi mx:Option Operand} {lo' hi' mx':Option AOpd}
    (hl:C.T.odd lo=some lo') (hi1:C.T.odd hi=some hi') (hm1:C.T.odd mx=some mx') (hmh:mx'.isSome=true→hi'.isSome=true) {x v:V} {vx:Value} (hx:Rel C.N w (Imm A w β h) β x vx) (hv:sliceV size x (optNat? ρ lo') (optNat? ρ hi') (optNat? ρ mx')=some v) :
    Runs A C w β h n { v } (do pure (.value (←Instr.sliceAt t vx (lo.map a.eval) (hi.map a.eval) (mx.map a.eval)))):=by
 have hsome:∀{y:Option AOpd} {k:Option Nat},optNat? ρ y=some k→k.isSome=y.isSome:=fun {y k} hk=>by
  cases y with
  | none=>simp [optNat?] at hk;subst hk;rfl
  | some y=>simp only [optNat?,Option.map_eq_some_iff] at hk;obtain ⟨_,_,rfl⟩:=hk;rfl
 have hat:∀vx,(Instr.sliceAt t vx (lo.map a.eval) (hi.map a.eval) (mx.map a.eval)).run C.T.P w=(Instr.slice t vx (lo.map a.eval) (hi.map a.eval) (mx.map a.eval)).run C.T.P w:=fun vx=>by
  simp [Instr.sliceAt,run_underlying hu]
 have hrun:∀(xa:Option Addr) (len c:Nat) (l hh' m:Option Nat),optNat? ρ lo'=some l→optNat? ρ hi'=some hh'→optNat? ρ mx'=some m→l.getD 0≤hh'.getD len→hh'.getD len≤m.getD c→m.getD c≤c→
     (Instr.sliceAt t (.slice xa len c) (lo.map a.eval) (hi.map a.eval) (mx.map a.eval)).run C.T.P w=.ok (.slice (if m.getD c=l.getD 0 then xa else xa.map (·.add (l.getD 0*size))) (hh'.getD len - l.getD 0) (m.getD c - l.getD 0)) w:=fun xa len c l hh' m q1 q2 q3 q4 q5 q6=>by
  rw [hat]
  have:=run_bounds (P:=C.T.P) (b:=true) (opt_rel ho hl q1) (opt_rel ho hi1 q2) (opt_rel ho hm1 q3) (fun hm=>by rw [hsome q2];exact hmh (by rw [←hsome q3];exact hm)) q4 q5 q6 w
  simp [Instr.slice,run_underlying hu,this,run_sizeOf' hs w]
 cases hx with
 | ref _ ab size' off len cap b xa c hb hc hlc hxa hm hnn=>
  simp only [sliceV] at hv
  split at hv
  ·rename_i l hh' m q1 q2 q3
   cases m with
   | none=>
    simp only at hv
    split at hv
    ·rename_i hcond
     obtain ⟨rfl,k2,k3⟩:=hcond
     simp only [Option.some.injEq] at hv
     subst hv
     have k4:hh'.getD len≤c:=by
      cases cap with
      | none=>simp at k3;omega
      | some cc=>simp at k3;have:=hc cc rfl;omega
     refine runs_same hh rfl rfl (hrun xa len c l hh' none q1 q2 q3 k2 k4 (Nat.le_refl _)) ?_
     refine .ref _ ab size' _ _ _ b _ _ hb (fun k hk=>?_) (by simp;omega) ?_ (fun h0=>?_) (by split <;> simp [hnn])
     ·cases cap with
      | none=>simp at hk
      | some cc=>simp at hk;have:=hc cc rfl;simp;omega
     ·by_cases e:c=l.getD 0
      ·left;simp [e]
      ·right
       simp only [Option.getD_none,if_neg e]
       rcases hxa with hxa|hxa
       ·omega
       ·rw [hxa];simp [Addr.add_mid,Nat.add_mul]
     ·simp at h0
      have h1:=hm (by omega)
      simp only [Option.getD_none]
      rw [show off+l.getD 0+(c - l.getD 0)=off+c by omega];exact h1
    ·cases hv
   | some m=>
    simp only at hv
    split at hv
    ·rename_i hcond
     obtain ⟨rfl,k2,k3,k5⟩:=hcond
     simp only [Option.some.injEq] at hv
     subst hv
     have k4:m≤c:=by
      cases cap with
      | none=>simp at k5;omega
      | some cc=>simp at k5;have:=hc cc rfl;omega
     refine runs_same hh rfl rfl (hrun xa len c l hh' (some m) q1 q2 q3 k2 k3 k4) ?_
     refine .ref _ ab size' _ _ _ b _ _ hb (fun k hk=>by simp at hk;simp;omega) (by simp;omega) ?_ (fun h0=>?_) (by split <;> simp [hnn])
     ·by_cases e:m=l.getD 0
      ·left;simp [e]
      ·right
       simp only [Option.getD_some,if_neg e]
       rcases hxa with hxa|hxa
       ·omega
       ·rw [hxa];simp [Addr.add_mid,Nat.add_mul]
     ·simp at h0
      obtain ⟨p1,p2,p3,p4,p5,p6⟩:=hm (by omega)
      have hle7:(off+l.getD 0+((some m).getD c - l.getD 0))*size'≤(off+c)*size':=bdd (by simp;omega)
      exact ⟨p1,p2,p3,p4,Nat.le_trans hle7 p5,fun k hk=>p6 k (Nat.lt_of_lt_of_le hk hle7)⟩
    ·cases hv
  ·cases hv
 | lst _ size' rows cap aa c b off ys hc hlc haa hnn hr hyy hrel hz0=>
  have hsub:∀(l k:Nat) (cap':Option Nat) (c':Nat) (xa':Option Addr),((size'=size∨rows.length=0)∧size≠0∧size≠1000003)→l+k≤rows.length→(∀q,cap'=some q→c'=q)→k≤c'→(0 < k→xa'=some ⟨b,off+l*size,none⟩)→(xa'=none→c'=0)→(aa=none→xa'=none)→(aa≠none→xa'≠none)→
      Rel C.N w (Imm A w β h) β (.lst (if rows.length=0 then size' else size) ((rows.drop l).take k) cap') (.slice xa' k c'):=fun l k cap' c' xa' z1 z2 z3 z4 z5 z6 z7 z8=>by
   by_cases hr0:rows.length=0
   ·rw [if_pos hr0]
    obtain rfl:k=0:=by omega
    have:=Rel.lst (N:=C.N) (w:=w) (S:=Imm A w β h) β size' ((rows.drop l).take 0) cap' xa' c' b off (fun _ _=>undef) z3 (by simp) (fun h0=>by simp at h0) z6 (fun i row hi=>by simp at hi) (fun i row j x hi=>by simp at hi) (fun i row j x hi=>by simp at hi) ⟨fun h _=>z7 (hz0.1 h hr0),fun h _=>z8 (hz0.2 h hr0)⟩
    simpa using this
   rw [if_neg hr0]
   have hlen:((rows.drop l).take k).length=k:=by simp;omega
   have hget:∀(i:Nat) (row:List V),((rows.drop l).take k)[i]?=some row→rows[l+i]?=some row∧size'=size:=fun i row hi=>by
    rw [List.getElem?_take] at hi
    split at hi
    ·rw [List.getElem?_drop] at hi
     refine ⟨hi,?_⟩
     rcases z1.1 with z1|z1
     ·exact z1
     ·have:=(List.getElem?_eq_some_iff.1 hi).1;omega
    ·cases hi
   have:=Rel.lst (N:=C.N) (w:=w) (S:=Imm A w β h) β size ((rows.drop l).take k) cap' xa' c' b (off+l*size) (fun i j=>ys (l+i) j) z3 (by rw [hlen];exact z4) (fun h0=>⟨z5 (by rw [hlen] at h0;exact h0),(haa (by rw [hlen] at h0;omega)).2⟩) z6
    (fun i row hi=>by obtain ⟨g1,g2⟩:=hget i row hi;rw [←g2];exact hr _ _ g1)
    (fun i row j x hi hj=>by
     obtain ⟨g1,g2⟩:=hget i row hi
     have:=hyy _ _ j x g1 hj
     rw [g2,Nat.add_mul] at this
     rw [show off+l*size+i*size+j=off+(l*size+i*size)+j by omega];exact this)
    (fun i row j x hi hj=>hrel _ _ j x (hget i row hi).1 hj) ⟨fun h _=>absurd h z1.2.1,fun h _=>absurd h z1.2.2⟩
   rw [hlen] at this
   exact this
  simp only [sliceV] at hv
  split at hv
  ·rename_i l hh' m q1 q2 q3
   cases m with
   | none=>
    simp only at hv
    split at hv
    ·rename_i hcond
     obtain ⟨k1,k2,k3⟩:=hcond
     simp only [Option.some.injEq] at hv
     subst hv
     refine runs_same hh rfl rfl (hrun aa rows.length c l hh' none q1 q2 q3 k2 (by simp;omega) (Nat.le_refl _)) ?_
     refine hsub _ _ _ _ _ k1 (by omega) (fun q hq=>?_) (by simp;omega) (fun h0=>?_) (fun h0=>?_) ?_ ?_
     ·cases cap with
      | none=>simp at hq
      | some cc=>simp at hq;have:=hc cc rfl;simp;omega
     ·simp only [Option.getD_none]
      rw [if_neg (by omega),(haa (by omega)).1];simp [Addr.add_mid]
     ·simp only [Option.getD_none] at h0 ⊢
      split at h0
      ·have:=hnn h0;omega
      ·cases aa with
       | none=>have:=hnn rfl;omega
       | some _=>simp at h0
     ·intro h;subst h;split <;> rfl
     ·intro h;split
      ·exact h
      ·cases aa with
       | none=>exact absurd rfl h
       | some _=>simp
    ·cases hv
   | some m=>
    simp only at hv
    split at hv
    ·rename_i hcond
     obtain ⟨k1,k2,k3,k4⟩:=hcond
     simp only [Option.some.injEq] at hv
     subst hv
     refine runs_same hh rfl rfl (hrun aa rows.length c l hh' (some m) q1 q2 q3 k2 k3 (by simp;omega)) ?_
     refine hsub _ _ _ _ _ k1 (by omega) (fun q hq=>by simp at hq;simp;omega) (by simp;omega) (fun h0=>?_) (fun h0=>?_) ?_ ?_
     ·simp only [Option.getD_some]
      rw [if_neg (by omega),(haa (by omega)).1];simp [Addr.add_mid]
     ·simp only [Option.getD_some] at h0 ⊢
      split at h0
      ·have:=hnn h0;omega
      ·cases aa with
       | none=>have:=hnn rfl;omega
       | some _=>simp at h0
     ·intro h;subst h;split <;> rfl
     ·intro h;split
      ·exact h
      ·cases aa with
       | none=>exact absurd rfl h
       | some _=>simp
    ·cases hv
  ·cases hv
 | _=>simp [sliceV] at hv
theorem slicea_runs (hh:HeapR A C.N w β h) (ho:OpdOk C w (Imm A w β h) β ρ a) {t e:TypeId} {size m:Nat} (hu:C.T.P.underlying t=some (.array m e)) (hs:C.T.size e=some size) {lo hi mx:Option Operand} {lo' hi' mx':Option AOpd}
    (hlo:C.T.odd lo=some lo') (hhi:C.T.odd hi=some hi') (hmx:C.T.odd mx=some mx') (hmh:mx'.isSome=true→hi'.isSome=true) {x:V} {vx:Value} (hx:Rel C.N w (Imm A w β h) β x vx) {ef:Eff} (he:sliceaV h size m x (optNat? ρ lo') (optNat? ρ hi') (optNat? ρ mx')=some ef) :
    Runs A C w β h n ef (do pure (.value (←Instr.sliceAt t vx (lo.map a.eval) (hi.map a.eval) (mx.map a.eval)))):=by
 cases hx with
 | ptr _ ab s i o b hb=>
  simp only [sliceaV] at he
  cases hk:h ab with
  | none=>rw [hk] at he;cases he
  | some kk=>
   cases kk with
   | loop=>rw [hk] at he;cases he
   | stop=>rw [hk] at he;cases he
   | map=>rw [hk] at he;cases he
   | iter=>rw [hk] at he;cases he
   | siter=>rw [hk] at he;cases he
   | junk=>rw [hk] at he;cases he
   | arr s2 rows=>
    simp only [hk] at he
    split at he
    ·rename_i l hh' mm q1 q2 q3
     split at he
     ·rename_i hcond
      obtain ⟨⟨rfl,hpos,hdiv,hfit⟩,k1,k2,k3⟩:=hcond
      simp only [Option.some.injEq] at he
      subst he
      obtain ⟨b',h1,h2,hblk⟩:=hh.at' ab _ hk
      rw [hb] at h1;cases h1
      obtain ⟨cells,T,fz,g1,g2,g3,g4⟩:=hblk
      have o1:=opt_rel ho hlo q1
      have o2:=opt_rel ho hhi q2
      have o3:=opt_rel ho hmx q3
      have hmn:mm.isSome=true→hh'.isSome=true:=fun hm=>by
       have e1:mx'.isSome=true:=by
        cases mx' with
        | none=>simp [optNat?] at q3;subst q3;cases hm
        | some _=>rfl
       have e2:=hmh e1
       cases hi' with
       | none=>cases e2
       | some y=>
        simp only [optNat?,Option.map_eq_some_iff] at q2
        obtain ⟨z,_,rfl⟩:=q2
        rfl
      have hrun:(Instr.sliceAt t (.pointer (some ⟨b,i*s+o,none⟩)) (lo.map a.eval) (hi.map a.eval) (mx.map a.eval)).run C.T.P w=.ok (.slice (some (if mm.getD m=l.getD 0 then ⟨b,i*s+o,none⟩ else (Addr.add ⟨b,i*s+o,none⟩ (l.getD 0*s2)))) (hh'.getD m - l.getD 0) (mm.getD m - l.getD 0)) w:=by
       have hbd:=run_bounds (P:=C.T.P) (b:=false) o1 o2 o3 hmn k1 k2 k3 w
       simp [Instr.sliceAt,run_underlying hu,Instr.sureAddr,hbd,run_sizeOf' hs w]
      refine runs_same hh rfl rfl hrun ?_
      have hF:i*s+o=(i*s+o) / s2*s2:=by
       have:=Nat.div_add_mod (i*s+o) s2
       rw [hdiv,Nat.add_zero,Nat.mul_comm] at this;exact this.symm
      refine .ref _ ab s2 _ _ _ b _ _ hb (fun k hk=>by simp at hk;exact hk) (by omega) ?_ (fun h0=>?_) (by simp)
      ·by_cases e:mm.getD m=l.getD 0
       ·left;omega
       ·right
        rw [if_neg e]
        simp only [Addr.add_mid,Nat.add_mul]
        rw [←hF]
      ·have hle:((i*s+o) / s2+l.getD 0+(mm.getD m - l.getD 0))*s2≤rows.length*s2:=Nat.mul_le_mul_right _ (by omega)
       refine ⟨cells,T,fz,g1,?_,fun k hk=>(g2 k (by omega)).2⟩
       rcases Nat.eq_zero_or_pos (rows.length*s2) with e|e
       ·omega
       ·have:=(g2 (rows.length*s2 - 1) (by omega)).1;omega
     ·cases he
    ·cases he
 | _=>simp [sliceaV] at he
end
end Go.Proofs.YtigdhgbkgfagiaaGreat
