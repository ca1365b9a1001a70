/-
  No cell of these rows narrows 'for every input' (looked for: loops, veiled, ifaces, maps, wideKeys, modest, calm, conditions, laid).
  DERIVED. THE GIVEN ROWS OF THIS SEAT. 3 by the template 'for every input the law returns true; each argument reads behind the call as it read before'; 0 by the template 'total and deterministic' (their statements: YtncdaicaljpgfaaGreatTotals.lean).
  GIVEN WITH THE SEED: the statements are not yours to turn. If you find one false, say at which input.
  Laid BY PROGRAM, IN A SANDBOX (cutbox-rows.mjs): the forced cells as the released guide's own fill.sh prints them over the translation a5ae47fcad9275d2… (all of the seat's roots in one cut). By AI agents, Wed Nov 11 2026. No macro, syntax, notation, axiom, sorry.
-/
import Derived.Test.YtncdaicaljpgfaaGreatChecked
import GoSem.Claim
import GoSem.ClaimJoined
import GoSem.ClaimMapViews
import Derived.JoinedTies
import Derived.KernelRfl
namespace Go.Proofs.YtncdaicaljpgfaaGreat
/- THE CELL 'sum', in the pinned program and in every row, IS THE sha256 OF THE DUMP (.gsa) THAT YtncdaicaljpgfaaGreatProg.lean LOADS. Nothing in Lean hashes anything: it is a label: what it is worth is what the hold of that sum in a sandbox is worth. -/
noncomputable def Tryz.pinned : Pinned := { name := "ytncdaicaljpgfaagreat", sum := "a5ae47fcad9275d25452f056c597ca7f4cfd36adb144ed16ca114437f1c8d054", checked := Tryz.checked }
namespace Rows
def none {H : Type} : Left H := { results := [], args := [] }

/-- 'suffragelaw23.MarginDoes': WHATEVER THE INPUT: true; the input reads as it did. -/
def marginDoesSpec : ChangeSpec := { name := "marginDoes", fn := fun _ => fun
  | [d1, d2, d3, d4, d5, d6, d7, d8] => { results := [.lit (.bool true)], args := [d1, d2, d3, d4, d5, d6, d7, d8] }
  | _ => none }
def marginDoesRow : OpenClaim := { program := "ytncdaicaljpgfaagreat", sum := "a5ae47fcad9275d25452f056c597ca7f4cfd36adb144ed16ca114437f1c8d054", func := "suffrage/suffragelaw23.MarginDoes", spec := "marginDoes", unfollowed := true, recurses := true, named := ["math/bits.overflowError", "math/bits.divideError"], apart := false }
def MarginDoesSaid : Prop := marginDoesRow.holds Tryz.pinned (OpenSpec.ofChange marginDoesSpec)

/-- ITS FALSE NEIGHBOUR: 'it returns false'. Refute it at one input. -/
def marginDoesWrong : ChangeSpec := { name := "marginDoes", fn := fun _ => fun
  | [d1, d2, d3, d4, d5, d6, d7, d8] => { results := [.lit (.bool false)], args := [d1, d2, d3, d4, d5, d6, d7, d8] }
  | _ => none }
def MarginDoesWrongFalsely : Prop := marginDoesRow.holds Tryz.pinned (OpenSpec.ofChange marginDoesWrong)

/-- 'suffragelaw23.MarginGain': WHATEVER THE INPUT: true; the input reads as it did. -/
def marginGainSpec : ChangeSpec := { name := "marginGain", fn := fun _ => fun
  | [d1, d2, d3, d4, d5, d6] => { results := [.lit (.bool true)], args := [d1, d2, d3, d4, d5, d6] }
  | _ => none }
def marginGainRow : OpenClaim := { program := "ytncdaicaljpgfaagreat", sum := "a5ae47fcad9275d25452f056c597ca7f4cfd36adb144ed16ca114437f1c8d054", func := "suffrage/suffragelaw23.MarginGain", spec := "marginGain", unfollowed := true, recurses := true, named := ["math/bits.overflowError", "math/bits.divideError"], apart := false }
def MarginGainSaid : Prop := marginGainRow.holds Tryz.pinned (OpenSpec.ofChange marginGainSpec)

/-- ITS FALSE NEIGHBOUR: 'it returns false'. Refute it at one input. -/
def marginGainWrong : ChangeSpec := { name := "marginGain", fn := fun _ => fun
  | [d1, d2, d3, d4, d5, d6] => { results := [.lit (.bool false)], args := [d1, d2, d3, d4, d5, d6] }
  | _ => none }
def MarginGainWrongFalsely : Prop := marginGainRow.holds Tryz.pinned (OpenSpec.ofChange marginGainWrong)

/-- 'suffragelaw23.MarginLeast': WHATEVER THE INPUT: true; the input reads as it did. -/
def marginLeastSpec : ChangeSpec := { name := "marginLeast", fn := fun _ => fun
  | [d1, d2, d3, d4] => { results := [.lit (.bool true)], args := [d1, d2, d3, d4] }
  | _ => none }
def marginLeastRow : OpenClaim := { program := "ytncdaicaljpgfaagreat", sum := "a5ae47fcad9275d25452f056c597ca7f4cfd36adb144ed16ca114437f1c8d054", func := "suffrage/suffragelaw23.MarginLeast", spec := "marginLeast", unfollowed := true, recurses := true, named := ["math/bits.overflowError", "math/bits.divideError"], apart := false }
def MarginLeastSaid : Prop := marginLeastRow.holds Tryz.pinned (OpenSpec.ofChange marginLeastSpec)

/-- ITS FALSE NEIGHBOUR: 'it returns false'. Refute it at one input. -/
def marginLeastWrong : ChangeSpec := { name := "marginLeast", fn := fun _ => fun
  | [d1, d2, d3, d4] => { results := [.lit (.bool false)], args := [d1, d2, d3, d4] }
  | _ => none }
def MarginLeastWrongFalsely : Prop := marginLeastRow.holds Tryz.pinned (OpenSpec.ofChange marginLeastWrong)

/- THE SECOND FORM. 'bulk': how many values and letters a reading holds, each counted each time it is reached (what is shared counts as often as it is met; a slice's spare places count too). A statement '..UptoSaid' is the law's where the arguments, and the package variables that the reading takes, are together of bulk at most 1048576: NARROWER than '..Said'. Prove '..Said' where nothing that the law and all that it calls make is longer than what came in: it says more and counts as full. Else prove '..UptoSaid'. A law counts once. -/
mutual
def uptoBulk {H : Type} : DataW H → Nat
  | .lit (.string bytes) => bytes.length + 1
  | .lit _ => 1
  | .nil => 1
  | .ptr d => uptoBulk d + 1
  | .slice elems spare => uptoBulkAll elems + uptoBulkAll spare + 1
  | .agg parts => uptoBulkAll parts + 1
  | .iface _ d => uptoBulk d + 1
  | .map entries => uptoBulkEntries entries + 1
  | .held _ => 1
def uptoBulkAll {H : Type} : List (DataW H) → Nat
  | [] => 0
  | d :: r => uptoBulk d + uptoBulkAll r
def uptoBulkEntries {H : Type} : List (Lit × DataW H) → Nat
  | [] => 0
  | x :: r => uptoBulkEntry x + uptoBulkEntries r
def uptoBulkEntry {H : Type} : Lit × DataW H → Nat
  | (.string bytes, d) => bytes.length + uptoBulk d + 1
  | (_, d) => uptoBulk d + 1
 end
def uptoSmall : (H : Type) → List (DataW H) → Bool := fun _ ds => decide (uptoBulkAll ds ≤ 1048576)
def OpenSpec.upto (s : _root_.Go.ChangeSpec) : _root_.Go.OpenSpec := { _root_.Go.OpenSpec.ofChange s with cond := some uptoSmall }

/-- 'suffragelaw23.MarginDoes', WHERE WHAT IT READS IS OF BULK AT MOST 1048576: true; the input reads as it did. -/
def marginDoesUptoRow : OpenClaim := { program := "ytncdaicaljpgfaagreat", sum := "a5ae47fcad9275d25452f056c597ca7f4cfd36adb144ed16ca114437f1c8d054", func := "suffrage/suffragelaw23.MarginDoes", spec := "marginDoes", unfollowed := true, recurses := true, named := ["math/bits.overflowError", "math/bits.divideError"], apart := false, narrowed := true }
def MarginDoesUptoSaid : Prop := marginDoesUptoRow.holds Tryz.pinned (OpenSpec.upto marginDoesSpec)

/-- 'suffragelaw23.MarginGain', WHERE WHAT IT READS IS OF BULK AT MOST 1048576: true; the input reads as it did. -/
def marginGainUptoRow : OpenClaim := { program := "ytncdaicaljpgfaagreat", sum := "a5ae47fcad9275d25452f056c597ca7f4cfd36adb144ed16ca114437f1c8d054", func := "suffrage/suffragelaw23.MarginGain", spec := "marginGain", unfollowed := true, recurses := true, named := ["math/bits.overflowError", "math/bits.divideError"], apart := false, narrowed := true }
def MarginGainUptoSaid : Prop := marginGainUptoRow.holds Tryz.pinned (OpenSpec.upto marginGainSpec)

/-- 'suffragelaw23.MarginLeast', WHERE WHAT IT READS IS OF BULK AT MOST 1048576: true; the input reads as it did. -/
def marginLeastUptoRow : OpenClaim := { program := "ytncdaicaljpgfaagreat", sum := "a5ae47fcad9275d25452f056c597ca7f4cfd36adb144ed16ca114437f1c8d054", func := "suffrage/suffragelaw23.MarginLeast", spec := "marginLeast", unfollowed := true, recurses := true, named := ["math/bits.overflowError", "math/bits.divideError"], apart := false, narrowed := true }
def MarginLeastUptoSaid : Prop := marginLeastUptoRow.holds Tryz.pinned (OpenSpec.upto marginLeastSpec)

end Rows
end Go.Proofs.YtncdaicaljpgfaaGreat
