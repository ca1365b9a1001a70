/-
  No cell of these rows narrows 'for every input' (looked for: loops, veiled, ifaces, maps, wideKeys, modest, calm, conditions, laid).
  DERIVED. THE GIVEN ROWS OF THIS SEAT. 3 by the template 'for every input the law returns true; each argument reads behind the call as it read before'; 0 by the template 'total and deterministic' (their statements: YtigdhgbkgfagiaaGreatTotals.lean).
  GIVEN WITH THE SEED: the statements are not yours to turn. If you find one false, say at which input.
  Laid BY PROGRAM, IN A SANDBOX (cutbox-rows.mjs): the forced cells as the released guide's own fill.sh prints them over the translation acb98aba7c9695ed… (all of the seat's roots in one cut). By AI agents, Wed Nov 11 2026. No macro, syntax, notation, axiom, sorry.
-/
import Derived.Test.YtigdhgbkgfagiaaGreatChecked
import GoSem.Claim
import GoSem.ClaimJoined
import GoSem.ClaimMapViews
import Derived.JoinedTies
import Derived.KernelRfl
namespace Go.Proofs.YtigdhgbkgfagiaaGreat
/- THE CELL 'sum', in the pinned program and in every row, IS THE sha256 OF THE DUMP (.gsa) THAT YtigdhgbkgfagiaaGreatProg.lean LOADS. Nothing in Lean hashes anything: it is a label: what it is worth is what the hold of that sum in a sandbox is worth. -/
noncomputable def Tryz.pinned : Pinned := { name := "ytigdhgbkgfagiaagreat", sum := "acb98aba7c9695edbe56f13bb972020345cc33fa0446e3a1328a762356123447", checked := Tryz.checked }
namespace Rows
def none {H : Type} : Left H := { results := [], args := [] }

/-- 'suffragelaw43.ElectionBegins': WHATEVER THE INPUT: true; the input reads as it did. -/
def electionBeginsSpec : ChangeSpec := { name := "electionBegins", fn := fun _ => fun
  | [d1, d2, d3, d4] => { results := [.lit (.bool true)], args := [d1, d2, d3, d4] }
  | _ => none }
def electionBeginsRow : OpenClaim := { program := "ytigdhgbkgfagiaagreat", sum := "acb98aba7c9695edbe56f13bb972020345cc33fa0446e3a1328a762356123447", func := "suffrage/suffragelaw43.ElectionBegins", spec := "electionBegins", unfollowed := true, recurses := true, named := ["math/bits.overflowError"], apart := false }
def ElectionBeginsSaid : Prop := electionBeginsRow.holds Tryz.pinned (OpenSpec.ofChange electionBeginsSpec)

/-- ITS FALSE NEIGHBOUR: 'it returns false'. Refute it at one input. -/
def electionBeginsWrong : ChangeSpec := { name := "electionBegins", fn := fun _ => fun
  | [d1, d2, d3, d4] => { results := [.lit (.bool false)], args := [d1, d2, d3, d4] }
  | _ => none }
def ElectionBeginsWrongFalsely : Prop := electionBeginsRow.holds Tryz.pinned (OpenSpec.ofChange electionBeginsWrong)

/-- 'suffragelaw44.PlainPlays': WHATEVER THE INPUT: true; the input reads as it did. -/
def plainPlaysSpec : ChangeSpec := { name := "plainPlays", fn := fun _ => fun
  | [d1, d2] => { results := [.lit (.bool true)], args := [d1, d2] }
  | _ => none }
def plainPlaysRow : OpenClaim := { program := "ytigdhgbkgfagiaagreat", sum := "acb98aba7c9695edbe56f13bb972020345cc33fa0446e3a1328a762356123447", func := "suffrage/suffragelaw44.PlainPlays", spec := "plainPlays", unfollowed := true, recurses := true, named := ["math/bits.overflowError"], apart := false }
def PlainPlaysSaid : Prop := plainPlaysRow.holds Tryz.pinned (OpenSpec.ofChange plainPlaysSpec)

/-- ITS FALSE NEIGHBOUR: 'it returns false'. Refute it at one input. -/
def plainPlaysWrong : ChangeSpec := { name := "plainPlays", fn := fun _ => fun
  | [d1, d2] => { results := [.lit (.bool false)], args := [d1, d2] }
  | _ => none }
def PlainPlaysWrongFalsely : Prop := plainPlaysRow.holds Tryz.pinned (OpenSpec.ofChange plainPlaysWrong)

/-- 'suffragelaw44.PlainFront': WHATEVER THE INPUT: true; the input reads as it did. -/
def plainFrontSpec : ChangeSpec := { name := "plainFront", fn := fun _ => fun
  | [d1, d2, d3] => { results := [.lit (.bool true)], args := [d1, d2, d3] }
  | _ => none }
def plainFrontRow : OpenClaim := { program := "ytigdhgbkgfagiaagreat", sum := "acb98aba7c9695edbe56f13bb972020345cc33fa0446e3a1328a762356123447", func := "suffrage/suffragelaw44.PlainFront", spec := "plainFront", unfollowed := true, recurses := true, named := ["math/bits.overflowError"], apart := false }
def PlainFrontSaid : Prop := plainFrontRow.holds Tryz.pinned (OpenSpec.ofChange plainFrontSpec)

/-- ITS FALSE NEIGHBOUR: 'it returns false'. Refute it at one input. -/
def plainFrontWrong : ChangeSpec := { name := "plainFront", fn := fun _ => fun
  | [d1, d2, d3] => { results := [.lit (.bool false)], args := [d1, d2, d3] }
  | _ => none }
def PlainFrontWrongFalsely : Prop := plainFrontRow.holds Tryz.pinned (OpenSpec.ofChange plainFrontWrong)

/- THE SECOND FORM. 'bulk': how many values and letters a reading holds, each counted each time it is reached (what is shared counts as often as it is met; a slice's spare places count too). A statement '..UptoSaid' is the law's where the arguments, and the package variables that the reading takes, are together of bulk at most 1048576: NARROWER than '..Said'. Prove '..Said' where nothing that the law and all that it calls make is longer than what came in: it says more and counts as full. Else prove '..UptoSaid'. A law counts once. -/
mutual
def uptoBulk {H : Type} : DataW H → Nat
  | .lit (.string bytes) => bytes.length + 1
  | .lit _ => 1
  | .nil => 1
  | .ptr d => uptoBulk d + 1
  | .slice elems spare => uptoBulkAll elems + uptoBulkAll spare + 1
  | .agg parts => uptoBulkAll parts + 1
  | .iface _ d => uptoBulk d + 1
  | .map entries => uptoBulkEntries entries + 1
  | .held _ => 1
def uptoBulkAll {H : Type} : List (DataW H) → Nat
  | [] => 0
  | d :: r => uptoBulk d + uptoBulkAll r
def uptoBulkEntries {H : Type} : List (Lit × DataW H) → Nat
  | [] => 0
  | x :: r => uptoBulkEntry x + uptoBulkEntries r
def uptoBulkEntry {H : Type} : Lit × DataW H → Nat
  | (.string bytes, d) => bytes.length + uptoBulk d + 1
  | (_, d) => uptoBulk d + 1
 end
def uptoSmall : (H : Type) → List (DataW H) → Bool := fun _ ds => decide (uptoBulkAll ds ≤ 1048576)
def OpenSpec.upto (s : _root_.Go.ChangeSpec) : _root_.Go.OpenSpec := { _root_.Go.OpenSpec.ofChange s with cond := some uptoSmall }

/-- 'suffragelaw43.ElectionBegins', WHERE WHAT IT READS IS OF BULK AT MOST 1048576: true; the input reads as it did. -/
def electionBeginsUptoRow : OpenClaim := { program := "ytigdhgbkgfagiaagreat", sum := "acb98aba7c9695edbe56f13bb972020345cc33fa0446e3a1328a762356123447", func := "suffrage/suffragelaw43.ElectionBegins", spec := "electionBegins", unfollowed := true, recurses := true, named := ["math/bits.overflowError"], apart := false, narrowed := true }
def ElectionBeginsUptoSaid : Prop := electionBeginsUptoRow.holds Tryz.pinned (OpenSpec.upto electionBeginsSpec)

/-- 'suffragelaw44.PlainPlays', WHERE WHAT IT READS IS OF BULK AT MOST 1048576: true; the input reads as it did. -/
def plainPlaysUptoRow : OpenClaim := { program := "ytigdhgbkgfagiaagreat", sum := "acb98aba7c9695edbe56f13bb972020345cc33fa0446e3a1328a762356123447", func := "suffrage/suffragelaw44.PlainPlays", spec := "plainPlays", unfollowed := true, recurses := true, named := ["math/bits.overflowError"], apart := false, narrowed := true }
def PlainPlaysUptoSaid : Prop := plainPlaysUptoRow.holds Tryz.pinned (OpenSpec.upto plainPlaysSpec)

/-- 'suffragelaw44.PlainFront', WHERE WHAT IT READS IS OF BULK AT MOST 1048576: true; the input reads as it did. -/
def plainFrontUptoRow : OpenClaim := { program := "ytigdhgbkgfagiaagreat", sum := "acb98aba7c9695edbe56f13bb972020345cc33fa0446e3a1328a762356123447", func := "suffrage/suffragelaw44.PlainFront", spec := "plainFront", unfollowed := true, recurses := true, named := ["math/bits.overflowError"], apart := false, narrowed := true }
def PlainFrontUptoSaid : Prop := plainFrontUptoRow.holds Tryz.pinned (OpenSpec.upto plainFrontSpec)

end Rows
end Go.Proofs.YtigdhgbkgfagiaaGreat
