/- What layer 2 computes, as plain functions on lists of bytes; laws about them. Nothing of the program is named here. -/
set_option linter.unusedVariables false
namespace Go.Proofs.YtefkhjbgkaknmaaDoor
def okB (c : UInt8) : Bool := 33 ≤ c.toNat && c.toNat ≤ 126
/-- A word: bytes from 33 to 126, at least one. -/
def wordL (l : List UInt8) : Bool := l.all okB && decide (0 < l.length)
/-- The lines of a text, the open line's bytes so far being cur; what stands behind the last feed is dropped. -/
def lnGo : List UInt8 → List UInt8 → List (List UInt8)
  | [], _ => []
  | c :: r, cur => if c.toNat = 10 then cur :: lnGo r [] else lnGo r (cur ++ [c])
def feedsL (l : List UInt8) : Nat := (l.filter fun c => c.toNat = 10).length
def linesL (l : List UInt8) : List (List UInt8) × Int :=
  if 16384 < l.length ∨ 512 < feedsL l then ([], 4)
  else if 0 < l.length ∧ (l.getLast?.map UInt8.toNat) ≠ some 10 then ([], 11)
  else (lnGo l [], 0)
/-- Sizes as the reference adds them up, to a bound. -/
def longGo : List (List UInt8) → Int → Int
  | [], n => n
  | s :: r, n => if n < 1000000 then longGo r (n + 1 + s.length) else n
def feedLine (l : List UInt8) : List UInt8 := l ++ [10]
def hasFeed (l : List UInt8) : Bool := l.any fun c => c.toNat = 10
/-- The size of a text, line by line; none where it passes the bound. -/
def sizeGo : List (List UInt8) → Nat → Bool
  | [], _ => true
  | s :: r, n => if 16384 < n + s.length + 1 then false else sizeGo r (n + s.length + 1)
def joinFeed : List (List UInt8) → List UInt8
  | [] => []
  | s :: r => s ++ 10 :: joinFeed r
def textL (l : List (List UInt8)) : List UInt8 × Int :=
  if 512 < l.length then ([], 4)
  else if sizeGo l 0 = false then ([], 4)
  else if l.any hasFeed then ([], 11)
  else (joinFeed l, 0)
/-- The parts between blanks. -/
def ptGo : List UInt8 → List UInt8 → List (List UInt8)
  | [], cur => [cur]
  | c :: r, cur => if c.toNat = 32 then cur :: ptGo r [] else ptGo r (cur ++ [c])
def wordsL (l : List UInt8) : List (List UInt8) × Int :=
  if 16384 < l.length then ([], 4)
  else if l.length = 0 then ([], 0)
  else if (ptGo l []).all wordL then (ptGo l [], 0) else ([], 11)
def joinBlank : List (List UInt8) → List UInt8
  | [] => []
  | [s] => s
  | s :: r => s ++ 32 :: joinBlank r
def lineL (l : List (List UInt8)) : List UInt8 × Int :=
  if l.all wordL = false then ([], 11)
  else if 16384 < (joinBlank l).length then ([], 4)
  else (joinBlank l, 0)
end Go.Proofs.YtefkhjbgkaknmaaDoor
