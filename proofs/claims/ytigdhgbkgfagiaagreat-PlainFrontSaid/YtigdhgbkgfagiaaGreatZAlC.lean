/- AL: what the operations yield, they yield in the model: the plain ones. -/
import Derived.Test.YtigdhgbkgfagiaaGreatZAlB
import Derived.Deep.MidRow
import Derived.WalkLawsBesides
set_option linter.unusedVariables false
namespace Go.Proofs.YtigdhgbkgfagiaaGreat
structure Ctx where
 T : Tr
 N : Nums
 G : Nat → Option V
 fns : ∀ f k, T.fns f = some k → N.ν k = some f
 tys : ∀ t k, T.tys t = some k → N.τ k = some t
 xks : ∀ f k, T.xk f = some k → ∃ fn, T.P.funcs[f]? = some fn ∧ Tr.xkind fn = some k
 mixed : T.P.follows .mixedOrders = true
 codes : ∀ n c x, N.κ n c x ↔ ∃ kills, T.code n kills c = some x
mutual
theorem V.of_rel {N : Nums} {w : World} {S : Nat → Prop} {β : Nat → Option Nat} : ∀ (x : Value) (v : V), V.of x = some v → Rel N w S β v x
 | .bool b, v, h => by simp [V.of] at h; subst h; exact .bool _ b
 | .int k n, v, h => by simp [V.of] at h; subst h; exact .int _ k n
 | .string s, v, h => by simp [V.of] at h; subst h; exact .str _ s
 | .pointer none, v, h => by simp [V.of] at h; subst h; exact .nilp _
 | .pointer (some a), v, h => by simp [V.of] at h
 | .slice none 0 0, v, h => by simp [V.of] at h; subst h; exact .lst _ 0 [] _ none 0 0 0 (fun _ _ => undef) (fun k hk => by cases hk; rfl) (by simp) (fun h => by simp at h) (fun _ => rfl) (fun i row h => by simp at h) (fun i row j x h => by simp at h) (fun i row j x h => by simp at h) ⟨fun _ _ => rfl, fun h => by cases h⟩
 | .slice none 0 (n + 1), v, h => by simp [V.of] at h
 | .slice none (n + 1) c, v, h => by simp [V.of] at h
 | .slice (some a) n c, v, h => by simp [V.of] at h
 | .nilFunc, v, h => by simp [V.of] at h; subst h; exact .nilf _
 | .nilIface, v, h => by simp [V.of] at h; subst h; exact .nili _
 | .agg ⟨cs⟩, v, h => by
  simp only [V.of, Option.map_eq_some_iff] at h
  obtain ⟨l, hl, rfl⟩ := h
  obtain ⟨h1, h2, h3⟩ := V.ofs_rel (N := N) (w := w) (S := S) (β := β) cs l hl
  exact .agg _ l _ h1 (fun i y hy => h3 i y (by simpa using hy)) (fun i c y hc hy => h2 i c y hc (by simpa using hy))
 | .float .., v, h => by simp [V.of] at h
 | .complex .., v, h => by simp [V.of] at h
 | .map none, v, h => by simp [V.of] at h; subst h; exact .nilm _
 | .map (some _), v, h => by simp [V.of] at h
 | .chan _, v, h => by simp [V.of] at h
 | .func .., v, h => by simp [V.of] at h
 | .iface .., v, h => by simp [V.of] at h
 | .tuple _, v, h => by simp [V.of] at h
theorem V.ofs_rel {N : Nums} {w : World} {S : Nat → Prop} {β : Nat → Option Nat} : ∀ (xs : List Value) (vs : List V), V.ofs xs = some vs → xs.length = vs.length ∧ (∀ (i : Nat) (c : V) (y : Value), vs[i]? = some c → xs[i]? = some y → Rel N w S β c y) ∧ (∀ (i : Nat) (y : Value), xs[i]? = some y → y.oneCell' = true)
 | [], vs, h => by simp [V.ofs] at h; subst h; exact ⟨rfl, fun i c y h => by simp at h, fun i y h => by simp at h⟩
 | x :: r, vs, h => by
  simp only [V.ofs, Option.bind_eq_some_iff] at h
  obtain ⟨v, hv, l, hl, he⟩ := h
  split at he
  ·rename_i hone
   simp only [Option.some.injEq] at he
   subst he
   obtain ⟨h1, h2, h3⟩ := V.ofs_rel (N := N) (w := w) (S := S) (β := β) r l hl
   refine ⟨by simp [h1], fun i c y hc hy => ?_, fun i y hy => ?_⟩
   ·cases i with
    | zero => simp at hc hy; subst hc; subst hy; exact V.of_rel x _ hv
    | succ i => simp at hc hy; exact h2 i c y hc hy
   ·cases i with
    | zero => simp at hy; subst hy; exact (V.of_rel (N := N) (w := w) (S := S) (β := β) x _ hv).one hone
    | succ i => simp at hy; exact h3 i y hy
  ·cases he
end
section
variable {A : Nat → Prop} {C : Ctx} {w : World} {β : Nat → Option Nat} {h : Nat → Option Blk} {n : Nat} {ρ : AOpd → Option V} {a : Act}
def opval (G : Nat → Option V) (E : Nat → Option V) : AOpd → Option V
 | .t t => E t
 | .c v => some v
 | .f k => some (.fn k [] [])
 | .g k => G k
def OpdOk (C : Ctx) (w : World) (S : Nat → Prop) (β : Nat → Option Nat) (ρ : AOpd → Option V) (a : Act) : Prop := ∀ (x : Operand) (y : AOpd) (v : V), C.T.opd x = some y → ρ y = some v → Rel C.N w S β v (a.eval x)
def Runs (A : Nat → Prop) (C : Ctx) (w : World) (β : Nat → Option Nat) (h : Nat → Option Blk) (n : Nat) (e : Eff) (s : Sem Next) : Prop :=
 ∃ x w', (s.run C.T.P w = .ok (.value x) w' ∨ (s.run C.T.P w = .ok .skip w' ∧ x = undef)) ∧ EffOk A C.N w β h n e x w'
theorem runs_same (hh : HeapR A C.N w β h) {s : Sem Value} {e : Eff} {x : Value} (h1 : e.upd = []) (h2 : e.new = []) (hs : s.run C.T.P w = .ok x w) (hr : Rel C.N w (Imm A w β h) β e.v x) : Runs A C w β h n e (do pure (.value (← s))) :=
 ⟨x, w, .inl (by rw [Sem.run_bind, hs]; rfl), effOk_same hh h1 h2 rfl rfl rfl rfl hr⟩
theorem run_sizeOf' {T : Tr} {t : TypeId} {k : Nat} (h : T.size t = some k) (w : World) : (sizeOf t).run T.P w = .ok k w := by
 unfold Tr.size at h
 cases hq : T.P.info? t with
 | none => rw [hq] at h; cases h
 | some i => rw [hq] at h; simp at h; subst h; simp [sizeOf, typeInfo, Sem.run_bind, hq]
theorem run_isAgg' {T : Tr} {t : TypeId} {g : Bool} (h : T.isAgg t = some g) (w : World) : (isAgg t).run T.P w = .ok g w := by
 unfold Tr.isAgg at h
 cases hq : T.P.underlying t with
 | none => rw [hq] at h; cases h
 | some d =>
  rw [hq] at h
  unfold isAgg
  rw [Sem.run_bind, run_underlying hq w]
  cases d <;> simp at h <;> subst h <;> rfl
theorem run_info' {T : Tr} {t : TypeId} {i : TypeInfo} (h : T.P.info? t = some i) (w : World) : (typeInfo t).run T.P w = .ok i w := by
 simp [typeInfo, Sem.run_bind, h]
theorem takeCells_spec {row : List V} {o k : Nat} {leaf : Bool} {v : V} (h : takeCells row o k leaf = some v) :
    (leaf = true ∧ row[o]? = some v) ∨ (leaf = false ∧ v = .agg ((row.drop o).take k) ∧ o + k ≤ row.length ∨ leaf = false ∧ k = 0 ∧ v = .agg []) := by
 unfold takeCells at h
 cases leaf with
 | true =>
  simp only [if_true] at h
  split at h
  ·rename_i c hc
   simp only [Option.some.injEq] at h
   subst h
   left
   refine ⟨rfl, ?_⟩
   have h0 : ((row.drop o).take k)[0]? = some c := by rw [hc]; rfl
   rw [List.getElem?_take] at h0
   split at h0
   ·rw [List.getElem?_drop] at h0; simpa using h0
   ·cases h0
  ·cases h
 | false =>
  simp only [Bool.false_eq_true, if_false] at h
  split at h
  ·rename_i hl
   simp only [Option.some.injEq] at h
   subst h
   right
   rw [List.length_take, List.length_drop] at hl
   by_cases hk : k = 0
   ·right; subst hk; exact ⟨rfl, rfl, by simp⟩
   ·left; exact ⟨rfl, rfl, by omega⟩
  ·cases h
theorem load_cells {T : Tr} {t : TypeId} {k : Nat} {g : Bool} (hsz : T.size t = some k) (hag : T.isAgg t = some g) {N : Nums} {S : Nat → Prop} {row : List V} {o : Nat} {v : V} (ht : takeCells row o k (!g) = some v) (b off : Nat)
    (hc : ∀ (j : Nat) (x : V), row[j]? = some x → ∃ y, w.cell? ⟨b, off + j, none⟩ = some y ∧ y.oneCell' = true ∧ Rel N w S β x y) :
    ∃ y, (Instr.loadAt t (.pointer (some ⟨b, off + o, none⟩))).run T.P w = .ok y w ∧ Rel N w S β v y := by
 have hrun : ∀ y, (loadVar t ⟨b, off + o, none⟩).run T.P w = .ok y w → (Instr.loadAt t (.pointer (some ⟨b, off + o, none⟩))).run T.P w = .ok y w := fun y hy => by
  simp only [Instr.loadAt, Instr.sureAddr, Sem.run_bind, Sem.run_pure, Result.andThen_ok, hy]
 rcases takeCells_spec ht with ⟨h1, h2⟩ | ⟨h1, h2, h3⟩ | ⟨h1, h2, h3⟩
 ·have hg : g = false := by simpa using h1
  subst hg
  obtain ⟨y, hy, -, hr⟩ := hc o v h2
  refine ⟨y, hrun y ?_, hr⟩
  unfold loadVar
  rw [Sem.run_bind, run_isAgg' hag w]
  simp [load, Sem.run, hy]
 ·have hg : g = true := by simpa using h1
  subst hg
  have hex : ∃ cs : List Value, cs.length = k ∧ ∀ j, j < k → ∃ x y, row[o + j]? = some x ∧ cs[j]? = some y ∧ w.cell? ⟨b, off + o + j, none⟩ = some y ∧ y.oneCell' = true ∧ Rel N w S β x y := by
   refine ⟨(List.range k).map fun j => (w.cell? ⟨b, off + o + j, none⟩).getD undef, by simp, fun j hj => ?_⟩
   obtain ⟨x, hx⟩ : ∃ x, row[o + j]? = some x := ⟨_, List.getElem?_eq_getElem (by omega)⟩
   obtain ⟨y, hy, h1, hr⟩ := hc (o + j) x hx
   rw [← Nat.add_assoc] at hy
   exact ⟨x, y, hx, by simp [hj, hy], hy, h1, hr⟩
  obtain ⟨cs, hl, hcs⟩ := hex
  refine ⟨.agg cs.toArray, hrun _ ?_, ?_⟩
  ·have hra : w.rangeAt b (off + o) cs := fun j y hy => by
     have hj : j < k := by rw [← hl]; exact (List.getElem?_eq_some_iff.1 hy).1
     obtain ⟨x, y', _, h5, h6, _, _⟩ := hcs j hj
     rw [hy] at h5; cases h5; exact h6
   have : (loadCells ⟨b, off + o, none⟩ cs.length).run T.P w = .ok cs.toArray w := run_loadCells_list (P := T.P) w ⟨b, off + o, none⟩ cs (fun j v hv => by rw [Addr.add_mid]; exact hra j v hv)
   unfold loadVar
   rw [Sem.run_bind, run_isAgg' hag w, Result.andThen_ok, if_pos rfl, Sem.run_bind, run_sizeOf' hsz w, Result.andThen_ok, Sem.run_bind, ← hl, this]
   rfl
  ·rw [h2]
   refine .agg _ _ _ (by simp [hl]; omega) (fun j y hy => ?_) (fun j c y hc' hy => ?_)
   ·have hj : j < k := by rw [← hl]; simpa using (Array.getElem?_eq_some_iff.1 hy).1
    obtain ⟨x, y', h4, h5, _, h6, h7⟩ := hcs j hj
    have : cs[j]? = some y := by simpa using hy
    rw [h5] at this; cases this; exact h6
   have hj : j < k := by rw [← hl]; simpa using (Array.getElem?_eq_some_iff.1 hy).1
   obtain ⟨x, y', h4, h5, _, _, h7⟩ := hcs j hj
   rw [List.getElem?_take, if_pos hj, List.getElem?_drop, h4] at hc'
   simp at hy
   have : cs[j]? = some y := by simpa using hy
   rw [h5] at this
   cases hc'; cases this; exact h7
 ·have hg : g = true := by simpa using h1
  subst hg
  subst h2; subst h3
  refine ⟨.agg #[], hrun _ ?_, .agg _ _ _ (by simp) (fun i y hy => by simp at hy) (fun i c y hc => by simp at hc)⟩
  unfold loadVar
  rw [Sem.run_bind, run_isAgg' hag w, Result.andThen_ok, if_pos rfl, Sem.run_bind, run_sizeOf' hsz w, Result.andThen_ok]
  rfl
theorem BlkR.cell {N : Nums} {S : Nat → Prop} {size : Nat} {rows : List (List V)} {b : Nat} (hb : BlkR N w S β (.arr size rows) b) {i : Nat} {row : List V} (hi : rows[i]? = some row) {j : Nat} {x : V} (hj : row[j]? = some x) :
    ∃ y, w.cell? ⟨b, i * size + j, none⟩ = some y ∧ y.oneCell' = true ∧ Rel N w S β x y := by
 obtain ⟨cells, T, fz, h1, h2, h3, h4⟩ := hb
 obtain ⟨y, hy, h5, hr⟩ := h4 i row j x hi hj
 exact ⟨y, by simp [World.cell?, h1, hy], h5, hr⟩
theorem loadV_runs (hh : HeapR A C.N w β h) {t : TypeId} {k : Nat} {g : Bool} (hsz : C.T.size t = some k) (hag : C.T.isAgg t = some g) {p : V} {x : Value} (hp : Rel C.N w (Imm A w β h) β p x) {e : Eff} (he : loadV h k (!g) p = some e) :
    Runs A C w β h n e (do pure (.value (← Instr.loadAt t x))) := by
 cases hp with
 | ptr _ a size i o b hb =>
  unfold loadV at he
  cases hk : h a with
  | none => simp only [hk] at he; cases he
  | some kk =>
   cases kk with
   | arr size' rows =>
    simp only [hk] at he
    split at he
    ·rename_i hs
     subst hs
     simp only [Option.bind_eq_some_iff] at he
     obtain ⟨row, hrow, v, hv, he⟩ := he
     simp only [Option.some.injEq] at he
     subst he
     obtain ⟨b', h1, h2, h3⟩ := hh.at' a _ hk
     rw [hb] at h1; cases h1
     obtain ⟨y, hy, hr⟩ := load_cells (w := w) (β := β) hsz hag (N := C.N) hv b (i * size) (fun j x hj => h3.cell hrow hj)
     exact runs_same hh rfl rfl hy hr
    ·cases he
   | _ => simp only [hk] at he; cases he
 | iptr _ size rows i o b off ys hS hr hy hrel =>
  simp only [loadV, Option.bind_eq_some_iff] at he
  obtain ⟨row, hrow, v, hv, he⟩ := he
  simp only [Option.some.injEq] at he
  subst he
  obtain ⟨y, hy, hr⟩ := load_cells (w := w) (β := β) hsz hag (N := C.N) (S := Imm A w β h) hv b (off + i * size) (fun j x hj => ⟨_, (hy i row j x hrow hj).1, (hy i row j x hrow hj).2, (hrel i row j x hrow hj).mono (fun _ h => h) (fun _ _ => rfl) (fun _ _ h => h) (fun _ _ h => by cases h)⟩)
  exact runs_same hh rfl rfl hy hr
 | _ => simp [loadV] at he
end
end Go.Proofs.YtigdhgbkgfagiaaGreat
