/- AL: a great function, put together from its parts. -/
import Derived.Test.YtigdhgbkgfagiaaGreatZAlX
set_option linter.unusedVariables false
namespace Go.Proofs.YtigdhgbkgfagiaaGreat
def pl : Code → Code
 | .seq a _ | .cond _ a _ | .block _ a | .loop a | .rangeFunc _ _ a _ | .scope a => a
 | c => c
def pr : Code → Code
 | .seq _ b | .cond _ _ b | .rangeFunc _ _ _ b => b
 | c => c
def cb (f : Func) : Code := f.body.getD .skip
def tagC : Code → Nat
 | .seq _ _ => 1
 | .cond _ _ _ => 2
 | .loop _ => 3
 | .scope _ => 4
 | .rangeFunc _ _ _ _ => 5
 | .block i _ => 6 + i
 | _ => 0
def opC : Code → Operand
 | .cond x _ _ | .rangeFunc x _ _ _ => x
 | _ => .tmp 0
def psC : Code → List Nat
 | .rangeFunc _ ps _ _ => ps.toList
 | _ => []
def PC (n : Nat) (ks : List (List Nat)) (c : Code) := { A : AC // CT.code n ks c = some A }
section
variable {n : Nat} {ks : List (List Nat)} {c : Code}
noncomputable def PC.seq (a : PC n ks (pl c)) (b : PC n ks (pr c)) (h : tagC c = 1 := by kernel_rfl) : PC n ks c := ⟨.seq a.1 b.1, by
 cases c with
 | seq x y =>
  show ((CT.code n ks x).bind fun a' => (CT.code n ks y).map (AC.seq a')) = _
  rw [show CT.code n ks x = some a.1 from a.2, show CT.code n ks y = some b.1 from b.2]; rfl
 | block i x => simp only [tagC] at h; omega
 | _ => cases h⟩
noncomputable def PC.cond (x : AOpd) (a : PC n ks (pl c)) (b : PC n ks (pr c)) (h : tagC c = 2 := by kernel_rfl) (hx : CT.opd (opC c) = some x := by kernel_rfl) : PC n ks c := ⟨.cond x a.1 b.1, by
 cases c with
 | cond o u v =>
  show ((CT.opd o).bind fun c => (CT.code n ks u).bind fun a' => (CT.code n ks v).map (AC.cond c a')) = _
  rw [show CT.opd o = some x from hx, show CT.code n ks u = some a.1 from a.2, show CT.code n ks v = some b.1 from b.2]; rfl
 | block i x => simp only [tagC] at h; omega
 | _ => cases h⟩
noncomputable def PC.loop (a : PC n ks (pl c)) (h : tagC c = 3 := by kernel_rfl) : PC n ks c := ⟨.loop a.1, by
 cases c with
 | loop u =>
  show (CT.code n ks u).map AC.loop = _
  rw [show CT.code n ks u = some a.1 from a.2]; rfl
 | block i x => simp only [tagC] at h; omega
 | _ => cases h⟩
noncomputable def PC.scope (a : PC n ks (pl c)) (h : tagC c = 4 := by kernel_rfl) : PC n ks c := ⟨a.1, by
 cases c with
 | scope u => exact a.2
 | block i x => simp only [tagC] at h; omega
 | _ => cases h⟩
noncomputable def PC.block (i : Nat) (a : PC n ks (pl c)) (h : tagC c = 6 + i := by kernel_rfl) : PC n ks c := ⟨.block i a.1, by
 cases c with
 | block j u =>
  have e : j = i := by simp [tagC] at h; omega
  subst e
  show (CT.code n ks u).map (AC.block j) = _
  rw [show CT.code n ks u = some a.1 from a.2]; rfl
 | _ => simp [tagC] at h <;> omega⟩
noncomputable def PC.range (x : AOpd) (ps : List Nat) (a : PC n ks (pl c)) (b : PC n ks (pr c)) (h : tagC c = 5 := by kernel_rfl) (hx : CT.opd (opC c) = some x := by kernel_rfl) (hp : psC c = ps := by kernel_rfl) : PC n ks c := ⟨.range x ps a.1 b.1, by
 cases c with
 | rangeFunc o q u v =>
  show ((CT.opd o).bind fun g => (CT.code n ks u).bind fun a' => (CT.code n ks v).map (AC.range g q.toList a')) = _
  rw [show CT.opd o = some x from hx, show CT.code n ks u = some a.1 from a.2, show CT.code n ks v = some b.1 from b.2, show q.toList = ps from hp]; rfl
 | block i x => simp only [tagC] at h; omega
 | _ => cases h⟩
end
noncomputable def FN (ks : List (List Nat)) (f : Func) (nt na : Nat) (rs : List ARes) (A : PC nt ks (cb f)) (hb : f.body.isSome = true := by kernel_rfl) (hn : f.ntmps = nt := by kernel_rfl) (ha : f.params.size + f.nfree = na := by kernel_rfl) (hr : CT.ress f.results.toList = some rs := by kernel_rfl) (hk : (Nat.ble na nt && !(f.name == "runtime.NumGoroutine")) = true := by kernel_rfl) : { F : AFunc // CT.func ks f = some F } :=
 ⟨{ ntmps := nt, nargs := na, kills := ks, results := rs, body := A.1 }, by
  obtain ⟨B, hB⟩ : ∃ B, f.body = some B := Option.isSome_iff_exists.1 hb
  have hc : cb f = B := by unfold cb; rw [hB]; rfl
  have h2 : CT.code nt ks B = some A.1 := by rw [← hc]; exact A.2
  rw [Bool.and_eq_true] at hk
  have h3 := Nat.le_of_ble_eq_true hk.1
  have h4 : (f.name == "runtime.NumGoroutine") = false := by simpa using hk.2
  unfold Tr.func
  rw [hB, hn, ha, Option.bind_some, h2, Option.bind_some, hr, Option.bind_some, if_pos ⟨h3, h4⟩]⟩
end Go.Proofs.YtigdhgbkgfagiaaGreat
