/- What layer 8 computes, as plain functions on lists of numbers; laws about them. Nothing of the program is named here. -/
set_option linter.unusedVariables false
namespace Go.Proofs.YtnhfbabenifbkaaGreatDoor
def inB (lo hi m : Int) : Bool := decide (lo ≤ m ∧ m < hi)
/-- A ballot is valid among so many candidates. -/
def fineL (k : Int) (l : List Int) (c : Int) : Bool :=
  if k = 3 then l.all (inB 0 11) && decide ((l.length : Int) = c)
  else if k = 1 then l.all (inB 0 c) && decide l.Nodup
  else if k = 2 then l.all (inB 0 c) && decide (l.Pairwise (· < ·))
  else false
def checkL (k : Int) (l : List Int) (c : Int) : Int := if c < 1 ∨ 10 < c then 2 else if fineL k l c = false then 8 else 0
def amongL (k : Int) (l : List Int) : Int := if k = 3 then (l.length : Int) else 10
def aloneL (k : Int) (l : List Int) : Bool := decide (checkL k l (amongL k l) = 0)
/-- The place of a number, or -1. -/
def placeL : List Int → Int → Int
  | [], _ => -1
  | a :: r, x => if a = x then 0 else if placeL r x < 0 then -1 else placeL r x + 1
/-- The mark at i is above all others. -/
def topAt (l : List Int) (i : Nat) (m : Int) : Bool := decide (0 < m) && (List.range l.length).all fun k => decide (k = i) || decide (l[k]?.getD 0 < m)
def topGo (l : List Int) : Nat → List Int → Int × Bool
  | _, [] => (0, false)
  | i, m :: r => if topAt l i m then ((i : Int), true) else topGo l (i + 1) r
def firstL (k : Int) (l : List Int) : Int × Bool :=
  if aloneL k l = false ∨ l = [] then (0, false)
  else if k = 1 ∨ k = 2 ∧ l.length = 1 then (l[0]?.getD 0, true)
  else if k = 2 then (0, false)
  else topGo l 0 l
def prefersL (k : Int) (l : List Int) (x y : Int) : Bool :=
  if x < 0 ∨ y < 0 then false
  else if k = 1 then decide (0 ≤ placeL l x) && (decide (placeL l y < 0) || decide (placeL l x < placeL l y))
  else if k = 2 then decide (0 ≤ placeL l x) && decide (placeL l y < 0)
  else if k = 3 then decide (x < l.length) && decide (y < l.length) && decide (l[y.toNat]?.getD 0 < l[x.toNat]?.getD 0)
  else false
def isLeft (left : List Bool) (c : Int) : Bool := decide (0 ≤ c) && left[c.toNat]?.getD false
def keepL (k : Int) (l : List Int) (left : List Bool) : List Int :=
  if k = 1 ∨ k = 2 then l.filter (isLeft left)
  else if k = 3 then l.mapIdx fun i m => if left[i]?.getD false then m else 0
  else l
def turnedL (p : List Int) : Bool := decide (1 ≤ p.length ∧ p.length ≤ 10) && (List.range p.length).all fun i => decide ((i : Int) ∈ p)
/-- A permutation's image of a number. -/
def imL (p : List Int) (m : Int) : Int := p[m.toNat]?.getD 0
def renameL (k : Int) (l p : List Int) : (Int × List Int) × Int :=
  if turnedL p = false then ((0, []), 2)
  else if fineL k l p.length = false then ((0, []), 8)
  else if k = 1 then ((k, l.map (imL p)), 0)
  else if k = 2 then ((k, ((List.range p.length).map Int.ofNat).filter fun c => decide (placeL p c ∈ l)), 0)
  else ((k, (List.range p.length).map fun (c : Nat) => l[(placeL p (c : Int)).toNat]?.getD 0), 0)
def aheadL : List Int → List Int → Bool
  | [], [] => false
  | [], _ :: _ => true
  | _ :: _, [] => false
  | a :: r, b :: s => if a = b then aheadL r s else decide (a < b)
def lessL (k : Int) (l : List Int) (j : Int) (m : List Int) : Bool := decide (k < j) || (decide (k = j) && aheadL l m)
def sameL (k : Int) (l : List Int) (j : Int) (m : List Int) : Bool := decide (k = j ∧ l = m)
end Go.Proofs.YtnhfbabenifbkaaGreatDoor
