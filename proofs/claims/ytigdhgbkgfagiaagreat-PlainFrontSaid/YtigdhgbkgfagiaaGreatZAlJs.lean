/- AL: a block may be seen as rows of another size. -/
import Derived.Test.YtigdhgbkgfagiaaGreatZAlJ
set_option linter.unusedVariables false
namespace Go.Proofs.YtigdhgbkgfagiaaGreat
theorem flatten_len {s : Nat} : ∀ {rows : List (List V)}, (∀ (i : Nat) (row : List V), rows[i]? = some row → row.length = s) → rows.flatten.length = rows.length * s
 | [], h => by simp
 | r :: l, h => by
  have h0 := h 0 r rfl
  have ih := flatten_len (rows := l) (s := s) (fun i row hi => h (i + 1) row (by simpa using hi))
  simp only [List.flatten_cons, List.length_append, List.length_cons, h0, ih, Nat.add_mul, Nat.one_mul]; omega
theorem flatten_get {s : Nat} : ∀ {rows : List (List V)}, (∀ (i : Nat) (row : List V), rows[i]? = some row → row.length = s) → ∀ (i : Nat) (row : List V) (j : Nat) (x : V), rows[i]? = some row → row[j]? = some x → rows.flatten[i * s + j]? = some x
 | [], h, i, row, j, x, hi, hj => by simp at hi
 | r :: l, h, 0, row, j, x, hi, hj => by
  simp at hi; subst hi
  rw [List.flatten_cons, Nat.zero_mul, Nat.zero_add, List.getElem?_append_left (List.getElem?_eq_some_iff.1 hj).1]; exact hj
 | r :: l, h, i + 1, row, j, x, hi, hj => by
  have h0 := h 0 r rfl
  have ih := flatten_get (rows := l) (s := s) (fun i row hi => h (i + 1) row (by simpa using hi)) i row j x (by simpa using hi) hj
  rw [List.flatten_cons, Nat.add_mul, Nat.one_mul, List.getElem?_append_right (by omega), h0, show i * s + s + j - s = i * s + j by omega]; exact ih
theorem flatten_row {s : Nat} {rows : List (List V)} (h : ∀ (i : Nat) (row : List V), rows[i]? = some row → row.length = s) {k : Nat} {x : V} (hk : rows.flatten[k]? = some x) : ∃ row, rows[k / s]? = some row ∧ row[k % s]? = some x ∧ 0 < s := by
 have hl := flatten_len h
 have hlt := (List.getElem?_eq_some_iff.1 hk).1
 rw [hl] at hlt
 have hs : 0 < s := by
  rcases Nat.eq_zero_or_pos s with e | e
  ·rw [e] at hlt; simp at hlt
  ·exact e
 have h1 : k / s < rows.length := Nat.div_lt_of_lt_mul (by rw [Nat.mul_comm]; exact hlt)
 have h2 : k % s < s := Nat.mod_lt _ hs
 obtain ⟨row, hrow⟩ : ∃ row, rows[k / s]? = some row := ⟨_, List.getElem?_eq_getElem h1⟩
 obtain ⟨y, hy⟩ : ∃ y, row[k % s]? = some y := ⟨_, List.getElem?_eq_getElem (by rw [h _ row hrow]; exact h2)⟩
 have := flatten_get h _ row _ y hrow hy
 have e : k / s * s + k % s = k := by rw [Nat.mul_comm]; exact Nat.div_add_mod k s
 rw [e, hk] at this
 cases this
 exact ⟨row, hrow, hy, hs⟩
theorem chunk_spec (size : Nat) : ∀ (n : Nat) (l : List V), l.length = n * size → (chunkN size n l).flatten = l ∧ (chunkN size n l).length = n ∧ ∀ (i : Nat) (row : List V), (chunkN size n l)[i]? = some row → row.length = size
 | 0, l, h => by
  have : l = [] := by simpa using h
  subst this
  exact ⟨rfl, rfl, fun i row hi => by simp [chunkN] at hi⟩
 | n + 1, l, h => by
  have hd : (l.drop size).length = n * size := by rw [List.length_drop, h, Nat.add_mul]; omega
  obtain ⟨h1, h2, h3⟩ := chunk_spec size n (l.drop size) hd
  refine ⟨by simp [chunkN, h1], by simp [chunkN, h2], fun i row hi => ?_⟩
  cases i with
  | zero =>
   simp [chunkN] at hi
   rw [← hi, List.length_take, h, Nat.add_mul, Nat.one_mul]
   exact Nat.min_eq_left (Nat.le_add_left _ _)
  | succ i => simp [chunkN] at hi; exact h3 i row hi
def FlatR (N : Nums) (w : World) (S : Nat → Prop) (β : Nat → Option Nat) (flat : List V) (b : Nat) : Prop :=
 ∃ (cells : Array Value) (T : TypeId) (fz : Nat × Nat), w.heap[b]? = some (.cells cells T fz) ∧ (∀ o, o < flat.length → o < cells.size ∧ ¬ (fz.1 ≤ o ∧ o < fz.2)) ∧ ∀ (k : Nat) (x : V), flat[k]? = some x → ∃ y, cells[k]? = some y ∧ y.oneCell' = true ∧ Rel N w S β x y
theorem BlkR.flat {N : Nums} {w : World} {S : Nat → Prop} {β : Nat → Option Nat} {s b : Nat} {rows : List (List V)} : BlkR N w S β (.arr s rows) b ↔ (∀ (i : Nat) (row : List V), rows[i]? = some row → row.length = s) ∧ FlatR N w S β rows.flatten b := by
 constructor
 ·rintro ⟨cells, T, fz, h1, h2, h3, h4⟩
  refine ⟨h3, cells, T, fz, h1, fun o ho => h2 o (by rw [← flatten_len h3]; exact ho), fun k x hk => ?_⟩
  obtain ⟨row, g1, g2, g3⟩ := flatten_row h3 hk
  have := h4 _ row _ x g1 g2
  rwa [show k / s * s + k % s = k by rw [Nat.mul_comm]; exact Nat.div_add_mod k s] at this
 ·rintro ⟨h3, cells, T, fz, h1, h2, h4⟩
  exact ⟨cells, T, fz, h1, fun o ho => h2 o (by rw [flatten_len h3]; exact ho), h3, fun i row j x hi hj => h4 _ x (flatten_get h3 i row j x hi hj)⟩
theorem BlkR.shape {N : Nums} {w : World} {S : Nat → Prop} {β : Nat → Option Nat} {k : Blk} {b : Nat} (size : Nat) (h : BlkR N w S β k b) : BlkR N w S β (k.shape size) b := by
 cases k with
 | arr s rows =>
  simp only [Blk.shape]
  split
  ·exact h
  ·split
   ·rename_i hc
    obtain ⟨h1, h2⟩ := BlkR.flat.1 h
    have hl : rows.flatten.length = rows.length * s / size * size := by
     rw [flatten_len h1, Nat.div_mul_cancel (Nat.dvd_of_mod_eq_zero hc.2)]
    obtain ⟨c1, c2, c3⟩ := chunk_spec size (rows.length * s / size) rows.flatten hl
    exact BlkR.flat.2 ⟨c3, by rw [c1]; exact h2⟩
   ·exact h
 | _ => exact h
theorem BlkR.unshape {N : Nums} {w : World} {S : Nat → Prop} {β : Nat → Option Nat} {k : Blk} {b : Nat} (size : Nat) (h : BlkR N w S β (k.shape size) b) (hl : ∀ s rows, k = .arr s rows → ∀ (i : Nat) (row : List V), rows[i]? = some row → row.length = s) : BlkR N w S β k b := by
 cases k with
 | arr s rows =>
  simp only [Blk.shape] at h
  split at h
  ·exact h
  ·split at h
   ·rename_i hc
    have h1 := hl s rows rfl
    obtain ⟨h2, h3⟩ := BlkR.flat.1 h
    have hl : rows.flatten.length = rows.length * s / size * size := by
     rw [flatten_len h1, Nat.div_mul_cancel (Nat.dvd_of_mod_eq_zero hc.2)]
    obtain ⟨c1, c2, c3⟩ := chunk_spec size (rows.length * s / size) rows.flatten hl
    exact BlkR.flat.2 ⟨h1, by rw [c1] at h3; exact h3⟩
   ·exact h
 | _ => exact h
section
variable {A : Nat → Prop} {C : Ctx} {w : World} {β : Nat → Option Nat} {h : Nat → Option Blk} {n : Nat} {ρ ρ' : AOpd → Option V} {a : Act}
theorem shG_none {size : Nat} {q : Nat} : shG size h q = none ↔ h q = none := by
 unfold shG; cases h q <;> simp
theorem live_sh {β : Nat → Option Nat} {h h' : Nat → Option Blk} (hn : ∀ q, h' q = none ↔ h q = none) : Live β h' = Live β h := by
 funext b
 apply propext
 exact ⟨fun ⟨q, h1, h2⟩ => ⟨q, fun e => h1 ((hn q).2 e), h2⟩, fun ⟨q, h1, h2⟩ => ⟨q, fun e => h1 ((hn q).1 e), h2⟩⟩
theorem imm_sh {A : Nat → Prop} {w : World} {β : Nat → Option Nat} {h h' : Nat → Option Blk} (hn : ∀ q, h' q = none ↔ h q = none) : Imm A w β h' = Imm A w β h := by
 funext b
 apply propext
 have := live_sh (β := β) hn
 exact ⟨fun ⟨a, b, c, d⟩ => ⟨a, by rw [← this]; exact b, c, d⟩, fun ⟨a, b, c, d⟩ => ⟨a, by rw [this]; exact b, c, d⟩⟩
theorem HeapR.shape {N : Nums} (hh : HeapR A N w β h) (size : Nat) : HeapR A N w β (shG size h) := by
 have him : Imm A w β (shG size h) = Imm A w β h := imm_sh (fun q => shG_none)
 refine ⟨fun q k hk => ?_, fun q q' b h1 h2 h3 h4 => hh.inj q q' b (fun e => h1 (shG_none.2 e)) (fun e => h2 (shG_none.2 e)) h3 h4⟩
 rw [him]
 simp only [shG, Option.map_eq_some_iff] at hk
 obtain ⟨k0, hk0, rfl⟩ := hk
 obtain ⟨b, h1, h2, h3⟩ := hh.at' q k0 hk0
 exact ⟨b, h1, h2, h3.shape size⟩
theorem OpdOk.shape {C : Ctx} (ho : OpdOk C w (Imm A w β h) β ρ a) (size : Nat) : OpdOk C w (Imm A w β (shG size h)) β ρ a := by
 rw [imm_sh (h := h) (fun q => shG_none)]; exact ho
theorem effOk_shape {N : Nums} (hh : HeapR A N w β h) {size : Nat} {e : Eff} {x : Value} {w' : World} (he : EffOk A N w β (shG size h) n e x w') : EffOk A N w β h n e x w' := by
 obtain ⟨β', h1, h2, h3, h4, h5⟩ := he
 have hn : ∀ q, e.heap n (shG size h) q = none ↔ e.heap n h q = none := fun q => by
  unfold Eff.heap
  split
  ·exact Iff.rfl
  ·split
   ·exact Iff.rfl
   ·exact shG_none
 have hlive := live_sh (β := β') hn
 have himm := imm_sh (A := A) (w := w') (β := β') hn
 have hl0 : Live β (shG size h) = Live β h := live_sh (fun q => shG_none)
 refine ⟨β', h1, ⟨fun q k hk => ?_, fun q q' b g1 g2 g3 g4 => h2.inj q q' b (fun e => g1 ((hn q).1 e)) (fun e => g2 ((hn q').1 e)) g3 g4⟩, by rw [← himm]; exact h3, fun b hb => by rw [← hl0]; exact h4 b (by rw [hlive]; exact hb), by rw [← hl0]; exact h5⟩
 rw [← himm]
 by_cases hq : e.heap n (shG size h) q = e.heap n h q
 ·exact h2.at' q k (by rw [hq]; exact hk)
 ·have hcase : e.heap n h q = h q ∧ e.heap n (shG size h) q = shG size h q := by
    unfold Eff.heap at hq ⊢
    by_cases c : n ≤ q ∧ q < n + e.new.length
    ·rw [if_pos c, if_pos c] at hq; exact absurd rfl hq
    ·rw [if_neg c, if_neg c] at hq ⊢
     cases hf : e.upd.find? (fun p => p.1 == q) with
     | some p => rw [hf] at hq; exact absurd rfl hq
     | none => exact ⟨rfl, rfl⟩
  rw [hcase.1] at hk
  obtain ⟨b0, _, _, g0⟩ := hh.at' q k hk
  obtain ⟨b, g1, g2, g3⟩ := h2.at' q (k.shape size) (by rw [hcase.2]; unfold shG; rw [hk]; rfl)
  exact ⟨b, g1, g2, g3.unshape size (fun s rows e => by subst e; obtain ⟨_, _, _, _, _, p, _⟩ := g0; exact p)⟩
theorem exec_sound (hh : HeapR A C.N w β h) (ho : OpdOk C w (Imm A w β h) β ρ a) {o : Oper} {ao : AOp} (hop : C.T.op o.op = some ao) {e : Eff} (he : ao.exec n h ρ = some e) (hn : e.new ≠ [] → β n = none) (hhn : e.new ≠ [] → h n = none) : Runs A C w β h n e (execOp a.eval o) := by
 obtain ⟨x, w', h1, h2⟩ := exec_sound0 (hh.shape (ao.sz ρ)) (ho.shape (ao.sz ρ)) hop he hn (fun hne => shG_none.2 (hhn hne))
 exact ⟨x, w', h1, effOk_shape hh h2⟩
theorem exec_rho (n : Nat) (get : Nat → Option Blk) (ao : AOp) (h : ∀ x ∈ ao.opds, ρ' x = ρ x) : ao.exec n get ρ' = ao.exec n get ρ := by
 unfold AOp.exec
 have : ao.sz ρ' = ao.sz ρ := by
  cases ao with
  | load k l p => simp only [AOp.sz]; rw [h p (by simp [AOp.opds])]
  | store k p x => simp only [AOp.sz]; rw [h p (by simp [AOp.opds])]
  | _ => rfl
 rw [this, exec_rho0 n _ ao h]
theorem exec_get {get get' : Nat → Option Blk} {ao : AOp} {e : Eff} (he : ao.exec n get ρ = some e) (hg : ∀ a ∈ e.need, get' a = get a) : ao.exec n get' ρ = some e :=
 exec_get0 he (fun q hq => by unfold shG; rw [hg q hq])
end
end Go.Proofs.YtigdhgbkgfagiaaGreat
