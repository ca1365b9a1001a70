/- AL: a state may be forgotten in part, renamed, frozen; a contract holds in every larger heap. -/
import Derived.Test.YtigdhgbkgfagiaaGreatZAlN
set_option linter.unusedVariables false
namespace Go.Proofs.YtigdhgbkgfagiaaGreat
def posIn : List (Option Nat) → Nat → Nat → Option Nat
 | [], _, _ => none
 | some b :: r, a, i => bif b == a then some i else posIn r a (i + 1)
 | none :: r, a, i => posIn r a (i + 1)
def nodupO : List (Option Nat) → Bool
 | [] => true
 | some a :: r => (posIn r a 0).isNone && nodupO r
 | none :: r => nodupO r
theorem posIn_spec : ∀ {l : List (Option Nat)} {a i k : Nat}, posIn l a i = some k → i ≤ k ∧ l[k - i]? = some (some a)
 | [], a, i, k, h => by simp [posIn] at h
 | some b :: r, a, i, k, h => by
  simp only [posIn] at h
  by_cases e : b = a
  ·subst e
   simp at h; subst h
   exact ⟨Nat.le_refl _, by simp⟩
  ·have : (b == a) = false := by simp [e]
   rw [this, cond_false] at h
   obtain ⟨h1, h2⟩ := posIn_spec h
   exact ⟨by omega, by rw [show k - i = k - (i + 1) + 1 by omega]; simpa using h2⟩
 | none :: r, a, i, k, h => by
  simp only [posIn] at h
  obtain ⟨h1, h2⟩ := posIn_spec h
  exact ⟨by omega, by rw [show k - i = k - (i + 1) + 1 by omega]; simpa using h2⟩
theorem posIn_none : ∀ {l : List (Option Nat)} {a i : Nat}, posIn l a i = none → ∀ (k : Nat), l[k]? ≠ some (some a)
 | [], a, i, h, k => by simp
 | some b :: r, a, i, h, k => by
  simp only [posIn] at h
  by_cases e : b = a
  ·subst e; simp at h
  ·have : (b == a) = false := by simp [e]
   rw [this, cond_false] at h
   cases k with
   | zero => simp [e]
   | succ k => simpa using posIn_none h k
 | none :: r, a, i, h, k => by
  simp only [posIn] at h
  cases k with
  | zero => simp
  | succ k => simpa using posIn_none h k
theorem posIn_start : ∀ (l : List (Option Nat)) (a i : Nat), posIn l a i = none ↔ posIn l a 0 = none
 | [], a, i => by simp [posIn]
 | some b :: r, a, i => by
  simp only [posIn]
  by_cases e : b = a
  ·subst e; simp
  ·have : (b == a) = false := by simp [e]
   rw [this, cond_false, cond_false, posIn_start r a (i + 1), posIn_start r a (0 + 1)]
 | none :: r, a, i => by simp only [posIn]; rw [posIn_start r a (i + 1), posIn_start r a (0 + 1)]
theorem posIn_of : ∀ {l : List (Option Nat)} {a k : Nat} (i : Nat), nodupO l = true → l[k]? = some (some a) → posIn l a i = some (i + k)
 | [], a, k, i, _, h => by simp at h
 | some b :: r, a, 0, i, hn, h => by simp at h; subst h; simp [posIn]
 | some b :: r, a, k + 1, i, hn, h => by
  simp only [nodupO, Bool.and_eq_true] at hn
  simp at h
  have hne : b ≠ a := fun e => by
   subst e
   have h1 : posIn r b 0 = none := by simpa using hn.1
   exact posIn_none h1 k h
  have : (b == a) = false := by simp [hne]
  simp only [posIn, this, cond_false]
  rw [posIn_of (i + 1) hn.2 h]
  congr 1; omega
 | none :: r, a, 0, i, hn, h => by simp at h
 | none :: r, a, k + 1, i, hn, h => by
  simp only [nodupO] at hn
  simp at h
  simp only [posIn]
  rw [posIn_of (i + 1) hn h]
  congr 1; omega
def sgOf (H : Heap) (src : List (Option Nat)) (fz : List Nat) (a : Nat) : Sg :=
 match posIn src a 0 with
 | some k => .to k
 | none => bif fz.contains a then (match H.get a with | some (.arr s rows) => bif (Blk.arr s rows).closed then .frz s rows else .drop | _ => .drop) else .drop
def Heap.sh (H : Heap) (src : List (Option Nat)) (fz : List Nat) : Heap := src.map fun o => o.bind fun a => (H.get a).map (Blk.ren (sgOf H src fz))
theorem Heap.sh_get (H : Heap) (src : List (Option Nat)) (fz : List Nat) (a : Nat) : (H.sh src fz).get a = (src[a]?.getD none).bind fun b => (H.get b).map (Blk.ren (sgOf H src fz)) := by
 unfold Heap.sh
 rw [Heap.get, List.getElem?_map]
 cases src[a]? <;> rfl
theorem sgOf_to {H : Heap} {src : List (Option Nat)} {fz : List Nat} {a k : Nat} (h : sgOf H src fz a = .to k) : src[k]? = some (some a) := by
 unfold sgOf at h
 split at h
 ·rename_i k' hk
  injection h with h
  subst h
  have := (posIn_spec hk).2
  simpa using this
 ·exfalso
  cases hq : fz.contains a with
  | false => rw [hq] at h; cases h
  | true =>
   rw [hq, cond_true] at h
   split at h
   ·rename_i s rows _
    cases hc : (Blk.arr s rows).closed <;> rw [hc] at h <;> cases h
   ·cases h
theorem sgOf_frz {H : Heap} {src : List (Option Nat)} {fz : List Nat} {a s : Nat} {rows : List (List V)} (h : sgOf H src fz a = .frz s rows) : posIn src a 0 = none ∧ fz.contains a = true ∧ H.get a = some (.arr s rows) ∧ (Blk.arr s rows).closed = true := by
 unfold sgOf at h
 split at h
 ·cases h
 ·rename_i hn
  cases hq : fz.contains a with
  | false => rw [hq] at h; cases h
  | true =>
   rw [hq, cond_true] at h
   split at h
   ·rename_i s' rows' hk
    cases hc : (Blk.arr s' rows').closed with
    | false => rw [hc] at h; cases h
    | true =>
     rw [hc, cond_true] at h
     injection h with e1 e2
     subst e1; subst e2
     exact ⟨hn, rfl, hk, hc⟩
   ·cases h
def shβ (src : List (Option Nat)) (β : Nat → Option Nat) (a : Nat) : Option Nat := (src[a]?.getD none).bind β
section
variable {L : Lib} {C : Ctx} {B : Base} {N : Nat}
theorem shβ_to {src : List (Option Nat)} {β : Nat → Option Nat} {a k : Nat} (h : src[k]? = some (some a)) : shβ src β k = β a := by simp [shβ, h]
theorem sh_get_some {H : Heap} {src : List (Option Nat)} {fz : List Nat} {k : Nat} {b : Blk} (h : (H.sh src fz).get k = some b) : ∃ (a : Nat) (b0 : Blk), src[k]? = some (some a) ∧ H.get a = some b0 ∧ b0.ren (sgOf H src fz) = b := by
 rw [Heap.sh_get] at h
 cases hq : src[k]? with
 | none => rw [hq] at h; cases h
 | some o =>
  cases o with
  | none => rw [hq] at h; cases h
  | some a =>
   rw [hq] at h
   simp only [Option.getD_some, Option.bind_some, Option.map_eq_some_iff] at h
   obtain ⟨b0, h1, h2⟩ := h
   exact ⟨a, b0, rfl, h1, h2⟩
def Agr (H : Heap) (h : Nat → Option Blk) (src : List (Option Nat)) (fz : List Nat) : Prop := ∀ (a : Nat), (fz.contains a = true ∨ ∃ k : Nat, src[k]? = some (some a)) → H.get a = h a
theorem Agr.self (H : Heap) (src : List (Option Nat)) (fz : List Nat) : Agr H H.get src fz := fun _ _ => rfl
theorem sh_live {H : Heap} {h : Nat → Option Blk} {src : List (Option Nat)} {fz : List Nat} (hag : Agr H h src fz) {β : Nat → Option Nat} {b : Nat} (hl : Live (shβ src β) (H.sh src fz).get b) : ∃ (k a : Nat), src[k]? = some (some a) ∧ h a ≠ none ∧ β a = some b := by
 obtain ⟨k, h1, h2⟩ := hl
 obtain ⟨bk, hb⟩ := Option.ne_none_iff_exists'.1 h1
 obtain ⟨a, b0, h3, h4, _⟩ := sh_get_some hb
 rw [shβ_to h3] at h2
 exact ⟨k, a, h3, by rw [← hag a (.inr ⟨k, h3⟩), h4]; simp, h2⟩
theorem sh_renOk {A : Nat → Prop} {N : Nums} {w : World} {H : Heap} {h : Nat → Option Blk} {src : List (Option Nat)} {fz : List Nat} (hag : Agr H h src fz) {β : Nat → Option Nat} {S' : Nat → Prop} (hh : HeapR A N w β h) (hS : ∀ b, Imm A w β h b → S' b)
    (hfz : ∀ a b s rows, fz.contains a = true → posIn src a 0 = none → h a = some (.arr s rows) → β a = some b → S' b) : RenOk N w S' (sgOf H src fz) β (shβ src β) := by
 refine ⟨fun a a' b h1 h2 => by rw [shβ_to (sgOf_to h1)]; exact h2, fun a size rows b h1 h2 => ?_⟩
 obtain ⟨h3, h4, h5, h6⟩ := sgOf_frz h1
 rw [hag a (.inl h4)] at h5
 obtain ⟨b', h7, h8, h9⟩ := hh.at' a _ h5
 rw [h2] at h7; cases h7
 obtain ⟨g1, g2⟩ := h9.frozen hS h6
 exact ⟨hfz a b _ _ h4 h3 h5 h2, g1, g2⟩
theorem sh_heap {A A' : Nat → Prop} {N : Nums} {w : World} {H : Heap} {h : Nat → Option Blk} {src : List (Option Nat)} {fz : List Nat} (hag : Agr H h src fz) {β : Nat → Option Nat} (hn : nodupO src = true) (hh : HeapR A N w β h) (hS : ∀ b, Imm A w β h b → Imm A' w (shβ src β) (H.sh src fz).get b)
    (hr : RenOk N w (Imm A' w (shβ src β) (H.sh src fz).get) (sgOf H src fz) β (shβ src β)) : HeapR A' N w (shβ src β) (H.sh src fz).get := by
 refine ⟨fun k bk hk => ?_, fun k k' b h1 h2 h3 h4 => ?_⟩
 ·obtain ⟨a, b0, h3, h4, rfl⟩ := sh_get_some hk
  rw [hag a (.inr ⟨k, h3⟩)] at h4
  obtain ⟨b, h5, h6, h7⟩ := hh.at' a b0 h4
  exact ⟨b, by rw [shβ_to h3]; exact h5, h6, h7.ren hS hr⟩
 ·obtain ⟨bk, hb⟩ := Option.ne_none_iff_exists'.1 h1
  obtain ⟨bk', hb'⟩ := Option.ne_none_iff_exists'.1 h2
  obtain ⟨a, b0, g1, g2, _⟩ := sh_get_some hb
  obtain ⟨a', b0', g1', g2', _⟩ := sh_get_some hb'
  rw [shβ_to g1] at h3
  rw [shβ_to g1'] at h4
  rw [hag a (.inr ⟨k, g1⟩)] at g2
  rw [hag a' (.inr ⟨k', g1'⟩)] at g2'
  have := hh.inj a a' b (by rw [g2]; simp) (by rw [g2']; simp) h3 h4
  subst this
  have e1 := posIn_of 0 hn g1
  have e2 := posIn_of 0 hn g1'
  rw [e1] at e2
  simp at e2; exact e2
def okSh (n0 : Nat) (src : List (Option Nat)) : Bool := nodupO src && (List.range n0).all fun i => match src[i]? with | some (some j) => j == i | _ => false
theorem RSL.shift_rel {E : Env} {H : Heap} {β : Nat → Option Nat} {a : Act} {w : World} (r : RSL C B N E H β a w) (src : List (Option Nat)) (fz : List Nat) (hok : okSh B.n0 src = true) {v : V} {x : Value} (hv : Rel C.N w (Imm B.A w β H.get) β v x) :
    ∃ β', RSL C B N (E.sh (sgOf H src fz)) (H.sh src fz) β' a w ∧ Rel C.N w (Imm B.A w β' (H.sh src fz).get) β' (v.ren (sgOf H src fz)) x := by
 simp only [okSh, Bool.and_eq_true, List.all_eq_true] at hok
 obtain ⟨hn, hall⟩ := hok
 have hid : ∀ i, i < B.n0 → src[i]? = some (some i) := fun i hi => by
  have := hall i (List.mem_range.2 hi)
  split at this
  ·rename_i j hj
   have : j = i := by simpa using this
   rw [hj, this]
  ·cases this
 have hlive : ∀ b, Live (shβ src β) (H.sh src fz).get b → Live β H.get b := fun b hb => by
  obtain ⟨k, a, h1, h2, h3⟩ := sh_live (Agr.self H src fz) hb
  exact ⟨a, h2, h3⟩
 have himm : ∀ b, Imm B.A w β H.get b → Imm B.A w (shβ src β) (H.sh src fz).get b := fun b hb => ⟨hb.lt, fun h => hb.free (hlive b h), hb.al, hb.arr⟩
 have hren : RenOk C.N w (Imm B.A w (shβ src β) (H.sh src fz).get) (sgOf H src fz) β (shβ src β) := sh_renOk (Agr.self H src fz) r.rs.heap himm (fun a b s rows h1 h2 h3 h4 => by
  have h3' : H.get a ≠ none := by rw [h3]; simp
  obtain ⟨b', g1, g2, g3⟩ := r.rs.heap.at' a _ h3
  rw [h4] at g1; cases g1
  refine ⟨g2, fun hl => ?_, B.hA b (r.rs.own b ⟨a, h3', h4⟩), ?_⟩
  rotate_left
  ·obtain ⟨cells, T, fz', q1, _⟩ := g3
   exact ⟨cells, T, fz', q1⟩
  ·obtain ⟨k, a', g1, g2, g3⟩ := sh_live (Agr.self H src fz) hl
   have := r.rs.heap.inj a a' b h3' g2 h4 g3
   subst this
   exact posIn_none h2 k g1)
 refine ⟨shβ src β, ⟨⟨r.rs.size, r.rs.defers, fun t v hv => ?_, sh_heap (Agr.self H src fz) hn r.rs.heap himm hren, r.rs.frm, fun b hb => r.rs.own b (hlive b hb), fun i hi => ?_, fun g k v h1 h2 => ?_, fun l rec hrd => ⟨(r.rs.rnd l rec hrd).1, fun h => (r.rs.rnd l rec hrd).2 (hlive l h)⟩⟩, fun i hi => ?_, ?_⟩, hv.ren himm hren⟩
 ·rw [Env.get_sh, Option.map_eq_some_iff] at hv
  obtain ⟨v0, h1, rfl⟩ := hv
  obtain ⟨x, h2, h3⟩ := r.rs.env t v0 h1
  exact ⟨x, h2, h3.ren himm hren⟩
 ·rw [shβ_to (hid i hi)]; exact r.rs.keep i hi
 ·exact (r.rs.glob g k v h1 h2).mono himm (fun _ _ => rfl) (fun _ _ h => h) (fun _ _ h => h)
 ·have : src[i]? = none := List.getElem?_eq_none (by unfold Heap.sh at hi; simpa using hi)
  simp [shβ, this]
 ·unfold Heap.sh
  rw [List.length_map]
  rcases Nat.eq_zero_or_pos B.n0 with h0 | h0
  ·omega
  ·have := (List.getElem?_eq_some_iff.1 (hid (B.n0 - 1) (by omega))).1; omega
theorem RSL.shift {E : Env} {H : Heap} {β : Nat → Option Nat} {a : Act} {w : World} (r : RSL C B N E H β a w) (src : List (Option Nat)) (fz : List Nat) (hok : okSh B.n0 src = true) : RSx C B N (E.sh (sgOf H src fz)) (H.sh src fz) a w := by
 obtain ⟨β', h, _⟩ := r.shift_rel src fz hok (v := .nilp) (.nilp _)
 exact ⟨β', h⟩
def outσ (n : Nat) (src : List Nat) (i : Nat) : Sg := match src[i]? with | some a => .to a | none => .to (n + (i - src.length))
def Heap.back (H : Heap) (src : List Nat) (h' : Heap) : Heap :=
 Heap.upds H (src.zipIdx.map fun p => (p.1, (h'.get p.2).map (Blk.ren (outσ H.length src)))) ++ (h'.drop src.length).map (Option.map (Blk.ren (outσ H.length src)))
def outOk (bor : List Nat) (r : V) (h' : Heap) : Bool := bor.isEmpty || (r.noLst && h'.all fun o => match o with | some k => k.noLst | none => true)
theorem find_src (f : Nat → Option Blk) : ∀ (src : List Nat) (st a : Nat), ((src.zipIdx st).map fun p => (p.1, f p.2)).find? (fun p => p.1 == a) = (posIn (src.map some) a st).map fun i => (a, f i)
 | [], st, a => rfl
 | b :: r, st, a => by
  rw [List.zipIdx_cons, List.map_cons, List.find?_cons, List.map_cons]
  simp only [posIn]
  by_cases e : b = a
  ·subst e; simp
  ·have : (b == a) = false := by simp [e]
   simp only [this, cond_false]
   exact find_src f r (st + 1) a
theorem back_get (H : Heap) (src : List Nat) (h' : Heap) (hlt : ∀ a ∈ src, a < H.length) (a : Nat) : (H.back src h').get a =
    if a < H.length then (match posIn (src.map some) a 0 with | some i => (h'.get i).map (Blk.ren (outσ H.length src)) | none => H.get a) else (h'.get (src.length + (a - H.length))).map (Blk.ren (outσ H.length src)) := by
 unfold Heap.back
 by_cases h1 : a < H.length
 ·rw [if_pos h1]
  have := Heap.upds_get H (src.zipIdx.map fun p => (p.1, (h'.get p.2).map (Blk.ren (outσ H.length src)))) (fun p hp => by
   obtain ⟨q, hq, rfl⟩ := List.mem_map.1 hp
   exact hlt _ (by
    obtain ⟨x, i⟩ := q
    exact (List.mem_zipIdx hq).2.2 ▸ List.getElem_mem _)) a
  unfold Heap.get at this ⊢
  rw [List.getElem?_append_left (by rw [Heap.upds_length]; exact h1), this]
  rw [find_src (fun i => (h'[i]?.getD none).map (Blk.ren (outσ H.length src))) src 0 a]
  cases posIn (src.map some) a 0 <;> rfl
 ·rw [if_neg h1]
  unfold Heap.get
  rw [List.getElem?_append_right (by rw [Heap.upds_length]; omega), Heap.upds_length, List.getElem?_map, List.getElem?_drop]
  cases h'[src.length + (a - H.length)]? <;> rfl
theorem back_length (H : Heap) (src : List Nat) (h' : Heap) : (H.back src h').length = H.length + (h'.length - src.length) := by
 simp [Heap.back, Heap.upds_length]
end
end Go.Proofs.YtigdhgbkgfagiaaGreat
