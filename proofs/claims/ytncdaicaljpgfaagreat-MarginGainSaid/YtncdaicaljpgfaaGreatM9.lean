/- A law of AL, told of a call from outside. · What a law is given: lists of numbers, as values of AL. -/
import Derived.Test.YtncdaicaljpgfaaGreatAlXl
import Derived.Test.YtncdaicaljpgfaaGreatM2
import Derived.ProofKit
import Derived.OpenShut
import Derived.ChangeOld
import Derived.SizedLaws
import Derived.Test.YtncdaicaljpgfaaGreatRows
import Derived.Test.YtncdaicaljpgfaaGreatMga
import Derived.ShutString
set_option maxRecDepth 100000
set_option linter.unusedVariables false
namespace Go.Proofs.YtncdaicaljpgfaaGreat
open Go.ChangeShapes Go.WideShapes Go.ChangeAt Go.RowKit
/-- What came in, one after another. -/
def RelAll (W : World) : List V → List Value → Prop
  | [], [] => True
  | v :: vs, x :: xs => Rel CC.N W (OldW W) (fun _ => none) v x ∧ RelAll W vs xs
  | _, _ => False
theorem RelAll.get {W : World} : ∀ {vs : List V} {xs : List Value}, RelAll W vs xs → xs.length = vs.length ∧ ∀ (i : Nat) (v : V) (x : Value), vs[i]? = some v → xs[i]? = some x → Rel CC.N W (OldW W) (fun _ => none) v x
  | [], [], _ => ⟨rfl, fun i v x h => by simp at h⟩
  | v :: vs, x :: xs, ⟨h1, h2⟩ => by
    obtain ⟨h3, h4⟩ := h2.get
    refine ⟨by simp [h3], fun i v' x' hv hx => ?_⟩
    cases i with
    | zero => simp at hv hx; subst hv; subst hx; exact h1
    | succ i => exact h4 i v' x' (by simpa using hv) (by simpa using hx)
  | [], _ :: _, h => h.elim
  | _ :: _, [], h => h.elim
/-- A law that yields true in AL yields true. -/
theorem law_args {L : Lib} (hC : Ok L CC) {k : Nat} {vs : List V} {xs : List Value} (h : AFn L (.fn k) vs [] (fun r' H' => r' = .bool true ∧ H' = [])) (hk : CT.fns k = some k) (W : World) (hr : RelAll W vs xs) :
    Calls Tryz.prog k xs.toArray W fun e w' => e = .returned (.bool true) ∧ Below W.heap.size W w' := by
  obtain ⟨h1, h2⟩ := hr.get
  refine Calls.mono (h CC hC (fun b => W.heap.size ≤ b ∨ True) W (fun _ => none) xs.toArray (fun _ _ => .inr trivial) (fun _ _ => rfl) ⟨fun a k h => by simp [Heap.get] at h, fun a a' b h => absurd (by simp [Heap.get]) h⟩ (fun g k v _ h => by cases h) ⟨by simp [h1], fun i v x hv hx => h2 i v x hv (by simpa using hx)⟩ k hk) ?_
  rintro e w' ⟨v, r', H', β', rfl, ⟨rfl, _⟩, _, _, _, _, hrel, _, hf⟩
  cases hrel
  exact ⟨rfl, ⟨hf.os, hf.tape, hf.output, hf.size, fun b hb => hf.block b hb (fun ⟨a, ha, _⟩ => by simp [Heap.get] at ha)⟩⟩
end Go.Proofs.YtncdaicaljpgfaaGreat
set_option maxRecDepth 100000
set_option linter.unusedVariables false
namespace Go.Proofs.YtncdaicaljpgfaaGreat
open Go.ChangeShapes Go.WideShapes Go.ChangeAt Go.RowKit
theorem own : ownKnob Tryz.prog.godebug = none := by kernel_rfl
theorem laidOut : laidOutB Tryz.prog = true := by kernel_rfl
/-- What a reading weighs is within the form's own reach. -/
theorem reach_each {H : Type} {ts : List TypeId} {ds : List (DataW H)} (h : (DataW.weightsEach Tryz.prog ts ds).all (· ≤ reachBytes) = true) {j : Nat} {t : TypeId} {d : DataW H} (ht : ts[j]? = some t) (hd : ds[j]? = some d) : ∀ n ∈ d.weights Tryz.prog t, n ≤ reachBytes := by
  intro n hn
  have := List.all_eq_true.1 h _ (DataW.weights_mem_each ht hd n hn)
  exact of_decide_eq_true this
theorem b_int : Tryz.prog.bytesOf 3 = 8 := by kernel_rfl
theorem reach_is : reachBytes = 140737488351232 := by kernel_rfl
theorem o_int : OpenT Tryz.prog CC.N 3 mrow (fun n => -9223372036854775808 ≤ n ∧ n ≤ 9223372036854775807) := (OpenT.int Tryz.underlying3).map id (fun _ => rfl) (fun n h => h)
theorem o_ints : OpenT Tryz.prog CC.N 22 (fun o : Nl Int => [nlv mrow 1 o]) okI := (OpenT.slice (n := 1) Tryz.underlying22 (by kernel_rfl) (by decide) (fun _ => rfl) o_int).map id (fun _ => rfl) (fun o h => by have := h.1; rw [b_int, reach_is] at this; exact this)
end Go.Proofs.YtncdaicaljpgfaaGreat
