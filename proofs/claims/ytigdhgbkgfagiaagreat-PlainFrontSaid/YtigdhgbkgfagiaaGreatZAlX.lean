/- AL: the program at hand. -/
import Derived.Test.YtigdhgbkgfagiaaGreatChecked
import Derived.Test.YtigdhgbkgfagiaaGreatZAlV
import Derived.KernelRfl
set_option maxRecDepth 100000
set_option linter.unusedVariables false
namespace Go.Proofs.YtigdhgbkgfagiaaGreat
def noBody : List Nat := [0, 1, 228, 229, 230, 231, 232, 233, 234, 235, 236, 237, 238, 239, 240, 241, 242, 243, 244, 245, 246]
def xkOf (f : Nat) : Option Nat := none
noncomputable def CT : Tr := { P := Tryz.prog, fns := fun f => bif Nat.blt f 247 && !memB f noBody then some f else none, tys := some, gls := some, xk := xkOf }
theorem CT_fns {f k : Nat} (h : CT.fns f = some k) : f = k ∧ k < 247 ∧ memB k noBody = false := by
 have h' : (bif Nat.blt f 247 && !memB f noBody then some f else none) = some k := h
 cases hb : (Nat.blt f 247 && !memB f noBody) with
 | false => rw [hb] at h'; cases h'
 | true =>
  rw [hb] at h'
  simp only [cond_true, Option.some.injEq] at h'
  subst h'
  rw [Bool.and_eq_true] at hb
  exact ⟨rfl, blt_lt hb.1, by simpa using hb.2⟩
theorem bodies : ((List.range 247).all fun k => memB k noBody || (match Tryz.prog.funcs[k]? with | some f => !f.body.isNone && !(f.name == "runtime.NumGoroutine") | none => false)) = true := by kernel_rfl
noncomputable def CN : Nums := { ν := CT.fns, τ := some, κ := fun n c x => ∃ kills, CT.code n kills c = some x }
theorem CT_mixed : CT.P.follows .mixedOrders = true := by
 show Tryz.prog.follows .mixedOrders = true
 kernel_rfl
theorem xks_ok (f k : Nat) (h : xkOf f = some k) : ∃ fn, Tryz.prog.funcs[f]? = some fn ∧ Tr.xkind fn = some k := by
 unfold xkOf at h
 cases h
noncomputable def CC : Ctx := { T := CT, N := CN, G := fun _ => none, fns := fun f k h => by obtain ⟨rfl, _⟩ := CT_fns h; exact h, tys := fun t k h => by cases (show some t = some k from h); rfl, xks := xks_ok, mixed := CT_mixed, codes := fun _ _ _ => Iff.rfl }
def Cert (k : Nat) (F : AFunc) : Prop := ∃ f, Tryz.prog.funcs[k]? = some f ∧ CT.func F.kills f = some F
def Tri.all {α : Type} (P : Nat → α → Prop) : Tri α → (Nat → Nat) → Prop
 | .e, _ => True
 | .n l v r, f => (∀ x, v = some x → P (f 0) x) ∧ Tri.all P l (fun i => f (2 * i + 1)) ∧ Tri.all P r (fun i => f (2 * i + 2))
theorem Tri.all_get {α : Type} {P : Nat → α → Prop} : ∀ {t : Tri α} {f : Nat → Nat} {i : Nat} {x : α}, Tri.all P t f → t.get i = some x → P (f i) x
 | .e, f, i, x, _, h => by simp [Tri.get] at h
 | .n l v r, f, i, x, ⟨h1, h2, h3⟩, h => by
  rw [Tri.step_get] at h
  split at h
  ·rename_i h0; subst h0; exact h1 x h
  ·split at h
   ·have := Tri.all_get h2 h
    rwa [show 2 * (i / 2) + 1 = i by omega] at this
   ·have := Tri.all_get h3 h
    rwa [show 2 * (i / 2 - 1) + 2 = i by omega] at this
theorem okS {α : Type} {P : Nat → α → Prop} {k : Nat} {a : α} (h : P k a) : ∀ x, some a = some x → P k x := fun x e => by cases e; exact h
theorem okN {α : Type} {P : Nat → α → Prop} {k : Nat} : ∀ x, (none : Option α) = some x → P k x := fun x e => by cases e
theorem hr0 : HR .e 0 [] := ⟨rfl, by funext a; simp [Heap.get, Tri.get]⟩
theorem func_kills {T : Tr} {ks : List (List Nat)} {f : Func} {F : AFunc} (h : T.func ks f = some F) : F.kills = ks := by
 unfold Tr.func at h
 simp only [Option.bind_eq_some_iff] at h
 obtain ⟨code, _, ac, _, rs, _, h⟩ := h
 rw [Option.ite_none_right_eq_some] at h
 obtain ⟨_, h⟩ := h
 cases h; rfl
theorem cert_of {k : Nat} {ks : List (List Nat)} {f : Func} {F : AFunc} (h : CT.func ks f = some F) (hf : Tryz.prog.funcs[k]? = some f) : Cert k F := ⟨f, hf, by rw [func_kills h]; exact h⟩
end Go.Proofs.YtigdhgbkgfagiaaGreat
