/- Outcomes: the library that knows Sort; a law of AL, told of a call from outside. · A library that knows Sort, and one function by its value. -/
import Derived.Test.YtkpfhnicdlgjiaaGreatAlXl
import Derived.Test.YtkpfhnicdlgjiaaGreatM2
import Derived.Test.YtkpfhnicdlgjiaaGreatM4
import Derived.Test.YtkpfhnicdlgjiaaGreatShelf
import Derived.ProofKit
import Derived.OpenShut
import Derived.ChangeOld
import Derived.SizedLaws
set_option maxRecDepth 100000
set_option linter.unusedVariables false
namespace Go.Proofs.YtkpfhnicdlgjiaaGreat
open Go.ChangeShapes Go.WideShapes Go.ChangeAt Go.RowKit
noncomputable def LS : Lib := { T := tab.get, G := fun _ => none, X := fun _ _ => none, Y := fun k args H Post => k = 17 ∧ ∃ (l : List Int) (c : Option Nat), 0 < l.length ∧ l.length < 4611686018427387904 ∧ args = [.ref 0 1 0 l.length c] ∧ H = [some (.arr 1 (l.map mrow))] ∧ Post = sortI l }
theorem okLS : Ok LS CC := by
  have h0 := okC
  refine ⟨h0.fn, h0.gl, h0.body, fun k fid args r _ h => (by cases h), fun _ _ _ _ _ _ h => (by cases h), fun k fid args H Post hk hY A w β vs hA hd hh hg ha => ?_⟩
  obtain ⟨rfl, l, c, h1, h2, rfl, rfl, rfl⟩ := hY
  obtain ⟨rfl, _⟩ := CT_fns (f := 17) (k := fid) hk
  exact sorti_runs (C := CC) (ρ := Tryz.lays189_ren) Tryz.lays189 h1 h2 hd hh ha
theorem sortOk : SortOk LS := fun l c h1 h2 => AFn.of_exty (L := LS) (Post := sortI l) ⟨rfl, l, c, h1, h2, rfl, rfl, rfl⟩
/-- What came in, one after another. -/
def RelAll (W : World) : List V → List Value → Prop
  | [], [] => True
  | v :: vs, x :: xs => Rel CC.N W (OldW W) (fun _ => none) v x ∧ RelAll W vs xs
  | _, _ => False
theorem RelAll.get {W : World} : ∀ {vs : List V} {xs : List Value}, RelAll W vs xs → xs.length = vs.length ∧ ∀ (i : Nat) (v : V) (x : Value), vs[i]? = some v → xs[i]? = some x → Rel CC.N W (OldW W) (fun _ => none) v x
  | [], [], _ => ⟨rfl, fun i v x h => by simp at h⟩
  | v :: vs, x :: xs, ⟨h1, h2⟩ => by
    obtain ⟨h3, h4⟩ := h2.get
    refine ⟨by simp [h3], fun i v' x' hv hx => ?_⟩
    cases i with
    | zero => simp at hv hx; subst hv; subst hx; exact h1
    | succ i => exact h4 i v' x' (by simpa using hv) (by simpa using hx)
  | [], _ :: _, h => h.elim
  | _ :: _, [], h => h.elim
/-- A law that yields true in AL yields true. -/
theorem law_args {L : Lib} (hC : Ok L CC) {k : Nat} {vs : List V} {xs : List Value} (h : AFn L (.fn k) vs [] (fun r' H' => r' = .bool true ∧ H' = [])) (hk : CT.fns k = some k) (W : World) (hr : RelAll W vs xs) :
    Calls Tryz.prog k xs.toArray W fun e w' => e = .returned (.bool true) ∧ Below W.heap.size W w' := by
  obtain ⟨h1, h2⟩ := hr.get
  refine Calls.mono (h CC hC (fun b => W.heap.size ≤ b ∨ True) W (fun _ => none) xs.toArray (fun _ _ => .inr trivial) (fun _ _ => rfl) ⟨fun a k h => by simp [Heap.get] at h, fun a a' b h => absurd (by simp [Heap.get]) h⟩ (fun g k v _ h => by cases h) ⟨by simp [h1], fun i v x hv hx => h2 i v x hv (by simpa using hx)⟩ k hk) ?_
  rintro e w' ⟨v, r', H', β', rfl, ⟨rfl, _⟩, _, _, _, _, hrel, _, hf⟩
  cases hrel
  exact ⟨rfl, ⟨hf.os, hf.tape, hf.output, hf.size, fun b hb => hf.block b hb (fun ⟨a, ha, _⟩ => by simp [Heap.get] at ha)⟩⟩
end Go.Proofs.YtkpfhnicdlgjiaaGreat
set_option linter.unusedVariables false
namespace Go.Proofs.YtkpfhnicdlgjiaaGreat
noncomputable def LB (k : Nat) : Lib := { T := tab.get, G := fun _ => none, X := xTab k, Y := LS.Y }
theorem okLB {k : Nat} (hk : AFn LL (.fn k) [] [] (fun r' H' => r' = .bool true ∧ True)) : Ok (LB k) CC :=
  ⟨(okX hk).fn, (okX hk).gl, (okX hk).body, (okX hk).ext, (okX hk).extr, okLS.exty⟩
theorem sortOkB (k : Nat) : SortOk (LB k) := fun l c h1 h2 => AFn.of_exty (L := LB k) (Post := sortI l) ⟨rfl, l, c, h1, h2, rfl, rfl, rfl⟩
end Go.Proofs.YtkpfhnicdlgjiaaGreat
