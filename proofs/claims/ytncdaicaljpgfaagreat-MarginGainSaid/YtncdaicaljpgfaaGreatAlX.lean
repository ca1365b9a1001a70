/- AL: the program at hand. -/
import Derived.Test.YtncdaicaljpgfaaGreatChecked
import Derived.Test.YtncdaicaljpgfaaGreatAlV
import Derived.KernelRfl
set_option maxRecDepth 100000
set_option linter.unusedVariables false
namespace Go.Proofs.YtncdaicaljpgfaaGreat

def noBody : List Nat := [0, 1, 333, 334, 335, 336, 337, 338, 339, 340, 341, 342, 343, 344, 345, 346, 347, 348, 358, 359, 360]
/-- The functions without a body that are known. -/
def xkOf (f : Nat) : Option Nat := none
noncomputable def CT : Tr := { P := Tryz.prog, fns := fun f => bif Nat.blt f 361 && !memB f noBody then some f else none, tys := some, gls := some, xk := xkOf }
theorem CT_fns {f k : Nat} (h : CT.fns f = some k) : f = k ∧ k < 361 ∧ memB k noBody = false := by
  have h' : (bif Nat.blt f 361 && !memB f noBody then some f else none) = some k := h
  cases hb : (Nat.blt f 361 && !memB f noBody) with
  | false => rw [hb] at h'; cases h'
  | true =>
    rw [hb] at h'
    simp only [cond_true, Option.some.injEq] at h'
    subst h'
    rw [Bool.and_eq_true] at hb
    exact ⟨rfl, blt_lt hb.1, by simpa using hb.2⟩
theorem bodies : ((List.range 361).all fun k => memB k noBody || (match Tryz.prog.funcs[k]? with | some f => !f.body.isNone && !(f.name == "runtime.NumGoroutine") | none => false)) = true := by kernel_rfl
noncomputable def CN : Nums := { ν := CT.fns, τ := some, κ := fun n c x => ∃ kills, CT.code n kills c = some x }
theorem CT_mixed : CT.P.follows .mixedOrders = true := by
  show Tryz.prog.follows .mixedOrders = true
  kernel_rfl
theorem xks_ok (f k : Nat) (h : xkOf f = some k) : ∃ fn, Tryz.prog.funcs[f]? = some fn ∧ Tr.xkind fn = some k := by
  unfold xkOf at h
  cases h
noncomputable def CC : Ctx := { T := CT, N := CN, G := fun _ => none, fns := fun f k h => by obtain ⟨rfl, _⟩ := CT_fns h; exact h, tys := fun t k h => by cases (show some t = some k from h); rfl, xks := xks_ok, mixed := CT_mixed, codes := fun _ _ _ => Iff.rfl }
/-- A function of the table is the program's. -/
def Cert (k : Nat) (F : AFunc) : Prop := ∃ f, Tryz.prog.funcs[k]? = some f ∧ CT.func F.kills f = some F
def Tri.all {α : Type} (P : Nat → α → Prop) : Tri α → (Nat → Nat) → Prop
  | .e, _ => True
  | .n l v r, f => (∀ x, v = some x → P (f 0) x) ∧ Tri.all P l (fun i => f (2 * i + 1)) ∧ Tri.all P r (fun i => f (2 * i + 2))
theorem Tri.all_get {α : Type} {P : Nat → α → Prop} : ∀ {t : Tri α} {f : Nat → Nat} {i : Nat} {x : α}, Tri.all P t f → t.get i = some x → P (f i) x
  | .e, f, i, x, _, h => by simp [Tri.get] at h
  | .n l v r, f, i, x, ⟨h1, h2, h3⟩, h => by
    rw [Tri.step_get] at h
    split at h
    · rename_i h0; subst h0; exact h1 x h
    · split at h
      · have := Tri.all_get h2 h
        rwa [show 2 * (i / 2) + 1 = i by omega] at this
      · have := Tri.all_get h3 h
        rwa [show 2 * (i / 2 - 1) + 2 = i by omega] at this
theorem okS {α : Type} {P : Nat → α → Prop} {k : Nat} {a : α} (h : P k a) : ∀ x, some a = some x → P k x := fun x e => by cases e; exact h
theorem okN {α : Type} {P : Nat → α → Prop} {k : Nat} : ∀ x, (none : Option α) = some x → P k x := fun x e => by cases e
/-- What a contract from nothing says of a call. -/
theorem calls_of {L : Lib} (hC : Ok L CC) {k : Nat} {r : V} {P : Heap → Prop} (h : AFn L (.fn k) [] [] (fun r' H' => r' = r ∧ P H')) (hk : CT.fns k = some k) (w : World) :
    Calls Tryz.prog k #[] w fun e w' => ∃ v, e = .returned v ∧ (∃ S β, Rel CN w' S β r v) ∧ Frm (fun _ => False) w w' := by
  refine Calls.mono (h CC hC (fun _ => True) w (fun _ => none) #[] (fun _ _ => trivial) (fun _ _ => rfl) ⟨fun a k h => by simp [Heap.get] at h, fun a a' b h => by simp [Heap.get] at h⟩ (fun g k v _ h => by cases h) ⟨rfl, fun i v x h => by simp at h⟩ k hk) ?_
  rintro e w' ⟨v, r', H', β', rfl, ⟨rfl, _⟩, _, _, _, _, hrel, _, hf⟩
  exact ⟨v, rfl, ⟨_, _, hrel⟩, ⟨hf.os, hf.tape, hf.output, hf.size, fun b hb _ => hf.block b hb (fun ⟨a, ha, _⟩ => by simp [Heap.get] at ha), hf.room⟩⟩
theorem hr0 : HR .e 0 [] := ⟨rfl, by funext a; simp [Heap.get, Tri.get]⟩
def isT (o : Option (V × Tri Blk × Nat)) : Bool := match o with | some (.bool true, _, _) => true | _ => false
theorem isT_spec {o : Option (V × Tri Blk × Nat)} (h : isT o = true) : ∃ T n, o = some (.bool true, T, n) := by
  unfold isT at h
  split at h
  · exact ⟨_, _, rfl⟩
  · cases h
theorem afn_true {L : Lib} {k m : Nat} (hrun : isT (funcR L m (.fn k) [] .e 0) = true) : AFn L (.fn k) [] [] (fun r' H' => r' = .bool true ∧ True) := by
  obtain ⟨T, n, hr⟩ := isT_spec hrun
  exact (funcR_sound L m (.fn k) [] .e 0 _ T n hr [] hr0).mono (fun r' H' ⟨e, _⟩ => ⟨e, trivial⟩)
theorem law_of {L : Lib} (hC : Ok L CC) {k : Nat} (h : AFn L (.fn k) [] [] (fun r' H' => r' = .bool true ∧ True)) (hk : CT.fns k = some k) (w : World) :
    Calls Tryz.prog k #[] w fun e w' => e = .returned (.bool true) ∧ RowKit.Below w.heap.size w w' := by
  refine Calls.mono (calls_of hC h hk w) ?_
  rintro e w' ⟨v, rfl, ⟨S, β, hrel⟩, hf⟩
  cases hrel
  exact ⟨rfl, ⟨hf.os, hf.tape, hf.output, hf.size, fun b hb => hf.block b hb (fun h => h)⟩⟩
/-- The same functions; and one (k) that gives true. -/
def xTab (k q : Nat) (args : List V) : Option V := match Nat.beq q k, args with | true, [] => some (.bool true) | _, _ => none
theorem xTab_spec {k q : Nat} {args : List V} {r : V} (h : xTab k q args = some r) : q = k ∧ args = [] ∧ r = .bool true := by
  unfold xTab at h
  split at h
  · rename_i hb
    cases h
    exact ⟨Nat.eq_of_beq_eq_true hb, rfl, rfl⟩
  · cases h
theorem func_kills {T : Tr} {ks : List (List Nat)} {f : Func} {F : AFunc} (h : T.func ks f = some F) : F.kills = ks := by
  unfold Tr.func at h
  simp only [Option.bind_eq_some_iff] at h
  obtain ⟨code, _, ac, _, rs, _, h⟩ := h
  rw [Option.ite_none_right_eq_some] at h
  obtain ⟨_, h⟩ := h
  cases h; rfl
theorem cert_of {k : Nat} {ks : List (List Nat)} {f : Func} {F : AFunc} (h : CT.func ks f = some F) (hf : Tryz.prog.funcs[k]? = some f) : Cert k F := ⟨f, hf, by rw [func_kills h]; exact h⟩
end Go.Proofs.YtncdaicaljpgfaaGreat
