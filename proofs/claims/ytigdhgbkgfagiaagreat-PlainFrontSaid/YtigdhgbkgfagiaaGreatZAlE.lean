/- AL: new blocks, numbers, parts of slices: what the operations yield, they yield in the model. -/
import Derived.Test.YtigdhgbkgfagiaaGreatZAlD
set_option linter.unusedVariables false
namespace Go.Proofs.YtigdhgbkgfagiaaGreat
section
variable {A : Nat → Prop} {C : Ctx} {w : World} {β : Nat → Option Nat} {h : Nat → Option Blk} {n : Nat} {ρ : AOpd → Option V} {a : Act}
def GridR (N : Nums) (w : World) (S : Nat → Prop) (β : Nat → Option Nat) (size : Nat) (rows : List (List V)) (cells : Array Value) : Prop :=
 (∀ (i : Nat) (row : List V), rows[i]? = some row → row.length = size) ∧ rows.length * size ≤ cells.size ∧
 ∀ (i : Nat) (row : List V) (j : Nat) (x : V), rows[i]? = some row → row[j]? = some x → ∃ y, cells[i * size + j]? = some y ∧ y.oneCell' = true ∧ Rel N w S β x y
theorem GridR.mono {N : Nums} {w w' : World} {S S' : Nat → Prop} {β β' : Nat → Option Nat} {size : Nat} {rows : List (List V)} {cells : Array Value} (g : GridR N w S β size rows cells) (hS : ∀ b, S b → S' b) (hw : ∀ b, S b → w'.heap[b]? = w.heap[b]?) (hm : ∀ b m, Room w b m → Room w' b m)
    (hβ : ∀ a b, β a = some b → β' a = some b) : GridR N w' S' β' size rows cells :=
 ⟨g.1, g.2.1, fun i row j x hi hj => let ⟨y, h1, h2, h3⟩ := g.2.2 i row j x hi hj; ⟨y, h1, h2, h3.mono hS hw hm hβ⟩⟩
theorem grid_lt {i j size len : Nat} (hi : i < len) (hj : j < size) : i * size + j < len * size := by
 have : (i + 1) * size ≤ len * size := Nat.mul_le_mul_right _ hi
 rw [Nat.add_mul] at this; omega
theorem GridR.blk {N : Nums} {w : World} {S : Nat → Prop} {β : Nat → Option Nat} {size : Nat} {rows : List (List V)} {cells : Array Value} (g : GridR N w S β size rows cells) {b : Nat} {T : TypeId} {fz : Nat × Nat} (hb : w.heap[b]? = some (.cells cells T fz)) (hz : ∀ o, o < cells.size → ¬ (fz.1 ≤ o ∧ o < fz.2)) : BlkR N w S β (.arr size rows) b :=
 ⟨cells, T, fz, hb, fun o ho => ⟨by have := g.2.1; omega, hz o (by have := g.2.1; omega)⟩, g.1, g.2.2⟩
theorem CellsR.grid {N : Nums} {w : World} {S : Nat → Prop} {β : Nat → Option Nat} {cs : List V} {ys : Array Value} (hc : CellsR N w S β cs ys) : GridR N w S β cs.length [cs] ys := by
 refine ⟨fun i row hr => ?_, by simp [hc.1], fun i row j x hr hj => ?_⟩
 ·cases i with
  | zero => simp at hr; rw [← hr]
  | succ i => simp at hr
 ·cases i with
  | zero => simp at hr; subst hr; obtain ⟨y, h1, h2, h3⟩ := hc.get hj; exact ⟨y, by simpa using h1, h2, h3⟩
  | succ i => simp at hr
theorem runs_new (hh : HeapR A C.N w β h) (hn : β n = none) (hhn : h n = none) {s : Sem Value} {e : Eff} {x : Value} {w' : World} {cells : Array Value} {T : TypeId} {fz : Nat × Nat} {size : Nat} {rows : List (List V)} (h1 : e.upd = []) (h2 : e.new = [.arr size rows])
    (hs : s.run C.T.P w = .ok x w') (hw : w'.heap = w.heap.push (.cells cells T fz)) (ho : w'.os = w.os) (ht : w'.tape = w.tape) (hp : w'.output = w.output) (hz : ∀ o, o < cells.size → ¬ (fz.1 ≤ o ∧ o < fz.2))
    (hg : GridR C.N w (Imm A w β h) β size rows cells) (hr : ∀ (β' : Nat → Option Nat) (S : Nat → Prop), β' n = some w.heap.size → Rel C.N w' S β' e.v x) : Runs A C w β h n e (do pure (.value (← s))) := by
 refine ⟨x, w', .inl (by rw [Sem.run_bind, hs]; rfl), effOk_new (o := .cells cells T fz) hh hn hhn h1 h2 hw ho ht hp (fun β' S hβ hb hS => ?_) (fun β' S _ hb _ => hr β' S hb)⟩
 have hold : ∀ b, Imm A w β h b → w'.heap[b]? = w.heap[b]? := fun b hb => by rw [hw, Array.getElem?_push, if_neg (by have := hb.lt; omega)]
 have hroom : ∀ b m, Room w b m → Room w' b m := fun b m ⟨cells, T, fz, h1, h2⟩ => ⟨cells, T, fz, by rw [hw, Array.getElem?_push, if_neg (by have := (Array.getElem?_eq_some_iff.1 h1).1; omega)]; exact h1, h2⟩
 exact (hg.mono hS hold hroom hβ).blk (T := T) (fz := fz) (by rw [hw]; simp) hz
theorem alloc_heap (w : World) (o : Obj) : (w.alloc o).heap = w.heap.push o := rfl
theorem box_runs (hh : HeapR A C.N w β h) (hn : β n = none) (hhn : h n = none) {t : TypeId} {v : V} {x : Value} (hx : Rel C.N w (Imm A w β h) β v x) (hv : v.isVal = true) :
    Runs A C w β h n { v := .ptr n v.cells.length 0 0, new := [.arr v.cells.length [v.cells]] } (do pure (.value (← Instr.box t x))) := by
 refine runs_new (w' := w.alloc (.cells x.cells t)) (cells := x.cells) (T := t) (fz := (0, 0)) (x := .pointer (some ⟨w.heap.size, 0, none⟩)) hh hn hhn rfl rfl ?_ rfl rfl rfl rfl (by simp) (hx.cellsR hv).grid (fun β' S hb => ?_)
 ·simp [Instr.box, newVar, newRow]
 ·have := Rel.ptr (N := C.N) (w := w.alloc (.cells x.cells t)) (S := S) β' n v.cells.length 0 0 w.heap.size hb
  simpa using this
theorem alloc_runs (hh : HeapR A C.N w β h) (hn : β n = none) (hhn : h n = none) {t : TypeId} {z : List V} (hz : C.T.zero t = some z) :
    Runs A C w β h n { v := .ptr n z.length 0 0, new := [.arr z.length [z]] } (do pure (.value (← Instr.alloc t true (.tuple #[])))) := by
 obtain ⟨i, v, hi, hzv, hc⟩ := zero_rel (w := w) (β := β) hz (N := C.N) (S := Imm A w β h)
 refine runs_new (w' := w.alloc (.cells v.cells t)) (cells := v.cells) (T := t) (fz := (0, 0)) (x := .pointer (some ⟨w.heap.size, 0, none⟩)) hh hn hhn rfl rfl ?_ rfl rfl rfl rfl (by simp) hc.grid (fun β' S hb => ?_)
 ·simp [Instr.alloc, newVar, newRow, run_zero hi hzv w]
 ·have := Rel.ptr (N := C.N) (w := w.alloc (.cells v.cells t)) (S := S) β' n z.length 0 0 w.heap.size hb
  simpa using this
theorem grid_zero {N : Nums} {S : Nat → Prop} {z : List V} {zs : Array Value} (hc : CellsR N w S β z zs) (k : Nat) : GridR N w S β z.length (List.replicate k z) ((Array.range (k * z.length)).map (fun i => zs[i % zs.size]!)) := by
 refine ⟨fun i row hr => ?_, by simp, fun i row j x hr hj => ?_⟩
 ·rw [List.getElem?_replicate] at hr
  split at hr
  ·cases hr; rfl
  ·cases hr
 ·rw [List.getElem?_replicate] at hr
  split at hr
  ·rename_i hi
   cases hr
   obtain ⟨y, h1, h2, h3⟩ := hc.get hj
   have hj' : j < z.length := (List.getElem?_eq_some_iff.1 hj).1
   refine ⟨y, ?_, h2, h3⟩
   have hlt := grid_lt hi hj'
   rw [Array.getElem?_map, Array.getElem?_range, if_pos hlt]
   simp only [Option.map_some, Option.some.injEq]
   rw [hc.1, Nat.mul_comm i, Nat.mul_add_mod, Nat.mod_eq_of_lt hj']
   have := Array.getElem?_eq_some_iff.1 h1
   obtain ⟨h4, h5⟩ := this
   rw [getElem!_pos zs j h4]; exact h5
  ·cases hr
theorem mkslice_runs (hh : HeapR A C.N w β h) (hn : β n = none) (hhn : h n = none) {t e : TypeId} {size bts : Nat} {z : List V} (hu : C.T.P.underlying t = some (.slice e)) (hsz : C.T.size e = some size) (hb : C.T.bytes e = some bts) (hz : C.T.zero e = some z)
    {kl kc : IntKind} {l c : Nat} (h1 : l ≤ c) (h2 : c * bts ≤ 140737488355328) (h3 : c < 9223372036854775808) (h4 : z.length = size) :
    Runs A C w β h n { v := .ref n size 0 l (some c), new := [.arr size (List.replicate c z)] } (do pure (.value (← Instr.makeSlice t (.int kl l) (.int kc c)))) := by
 obtain ⟨i, v, hi, hzv, hc⟩ := zero_rel (w := w) (β := β) hz (N := C.N) (S := Imm A w β h)
 subst h4
 have hbi : i.bytes = bts := by unfold Tr.bytes at hb; rw [hi] at hb; simpa using hb
 have hsi : i.size = z.length := by unfold Tr.size at hsz; rw [hi] at hsz; simpa using hsz
 have hg := grid_zero hc c
 have hrun : ∃ w', (Instr.makeSlice t (.int kl l) (.int kc c)).run C.T.P w = .ok (.slice (some ⟨w.heap.size, 0, none⟩) l c) w' ∧ w'.heap = w.heap.push (.cells ((Array.range (c * z.length)).map (fun i => v.cells[i % v.cells.size]!)) e) ∧ w'.os = w.os ∧ w'.tape = w.tape ∧ w'.output = w.output := by
  have := run_make (P := C.T.P) w t e i v hu hi hzv kl kc l c (by omega) (by omega) (by
   have : ((c * bts : Nat) : Int) ≤ 140737488355328 := by omega
   rw [Int.natCast_mul] at this
   rw [hbi, Int.mul_comm]; omega) (by omega)
  simp only [Int.toNat_natCast, hsi] at this
  exact ⟨_, this, rfl, rfl, rfl, rfl⟩
 obtain ⟨w', r1, r2, r3, r4, r5⟩ := hrun
 refine runs_new (w' := w') (fz := (0, 0)) hh hn hhn rfl rfl r1 r2 r3 r4 r5 (by simp) hg (fun β' S hb => ?_)
 have := Rel.ref (N := C.N) (w := w') (S := S) β' n z.length 0 l (some c) w.heap.size (some ⟨w.heap.size, 0, none⟩) c hb (fun k hk => by cases hk; rfl) h1 (.inr (by simp)) (fun _ => ⟨(Array.range (c * z.length)).map (fun i => v.cells[i % v.cells.size]!), e, (0, 0), by rw [r2]; simp, by simp, by simp⟩) (by simp)
 exact this
theorem bslice_fill {N : Nums} {S : Nat → Prop} {size : Nat} : ∀ {l : List (Nat × V)} {m : List (Nat × Value)} {rows rows' : List (List V)} {ys : Array Value}, GridR N w S β size rows ys → ys.size = rows.length * size →
    (l.length = m.length) → (∀ (k : Nat) (p : Nat × V) (q : Nat × Value), l[k]? = some p → m[k]? = some q → p.1 = q.1 ∧ Rel N w S β p.2 q.2) → fillRows size rows l = some rows' →
    ∃ ys', Instr.fill (fun i => some (i * size, size)) ys m = some ys' ∧ GridR N w S β size rows' ys' ∧ rows'.length = rows.length
 | [], [], rows, rows', ys, hg, hy, _, _, h => by simp [fillRows] at h; subst h; exact ⟨ys, rfl, hg, rfl⟩
 | [], _ :: _, _, _, _, _, _, hl, _, _ => by simp at hl
 | _ :: _, [], _, _, _, _, _, hl, _, _ => by simp at hl
 | (i, v) :: l, (i', x) :: m, rows, rows', ys, hg, hy, hl, hr, h => by
  obtain ⟨e1, hrel⟩ := hr 0 _ _ rfl rfl
  simp only at e1 hrel
  subst e1
  simp only [fillRows] at h
  split at h
  ·rename_i hcond
   obtain ⟨h1, h2, h3⟩ := hcond
   have hv := hrel.cellsR h2
   have e : x.cells.zipIdx.foldl (fun cs (c, j) => cs.setIfInBounds (i * size + j) c) ys = (x.cells.toList.zipIdx 0).foldl (fun cs (p : Value × Nat) => cs.setIfInBounds (i * size + p.2) p.1) ys := by
    rw [← Array.foldl_toList, Array.toList_zipIdx]
   obtain ⟨f1, f2⟩ := fold_put (i * size) x.cells.toList 0 ys
   have hin : i * size + size ≤ rows.length * size := by
    have : (i + 1) * size ≤ rows.length * size := Nat.mul_le_mul_right _ h3
    rw [Nat.add_mul] at this; omega
   have hsz : x.cells.size = size := by rw [hv.1, h1]
   have hg' : GridR N w S β size (rows.set i v.cells) (x.cells.zipIdx.foldl (fun cs (c, j) => cs.setIfInBounds (i * size + j) c) ys) := by
    rw [e]
    refine ⟨fun k row hk => ?_, by rw [f1, hy]; simp, fun k row j c hk hj => ?_⟩
    ·rw [List.getElem?_set] at hk
     by_cases e2 : i = k
     ·subst e2; simp [h3] at hk; rw [← hk]; exact h1
     ·rw [if_neg e2] at hk; exact hg.1 k row hk
    ·rw [f2]
     rw [List.getElem?_set] at hk
     by_cases e2 : i = k
     ·subst e2
      simp only [if_true, h3] at hk
      cases hk
      have hj' : j < size := by rw [← h1]; exact (List.getElem?_eq_some_iff.1 hj).1
      rw [if_pos ⟨by omega, by simp [hsz]; omega, by rw [hy]; omega⟩]
      obtain ⟨y, g1, g2, g3⟩ := hv.get hj
      exact ⟨y, by simpa using g1, g2, g3⟩
     ·rw [if_neg e2] at hk
      have hk' := (List.getElem?_eq_some_iff.1 hk).1
      have hj' : j < size := by rw [← hg.1 k row hk]; exact (List.getElem?_eq_some_iff.1 hj).1
      rw [if_neg ?_]
      ·exact hg.2.2 k row j c hk hj
      ·simp [hsz]
       intro h4 h5
       exfalso
       rcases Nat.lt_or_gt_of_ne e2 with e3 | e3
       ·have : (i + 1) * size ≤ k * size := Nat.mul_le_mul_right _ e3
        rw [Nat.add_mul] at this; omega
       ·have : (k + 1) * size ≤ i * size := Nat.mul_le_mul_right _ e3
        rw [Nat.add_mul] at this; omega
   obtain ⟨ys', g1, g2, g3⟩ := bslice_fill (l := l) (m := m) hg' (by rw [e, f1, hy]; simp) (by simpa using hl) (fun k p q hp hq => hr (k + 1) p q hp hq) h
   refine ⟨ys', ?_, g2, by rw [g3]; simp⟩
   simp only [Instr.fill]
   rw [if_neg (by simp [hsz]; rw [hy]; omega)]
   exact g1
  ·cases h
theorem evalParts1_rel {S : Nat → Prop} (ho : OpdOk C w S β ρ a) : ∀ {ps : List (Nat × Operand)} {as : List (Nat × AOpd)} {vs : List (Nat × V)}, C.T.parts1 ps = some as → evalParts1 ρ as = some vs →
    vs.length = ps.length ∧ ∀ (k : Nat) (p : Nat × V) (q : Nat × Value), vs[k]? = some p → (ps.map fun p => (p.1, a.eval p.2))[k]? = some q → p.1 = q.1 ∧ Rel C.N w S β p.2 q.2
 | [], as, vs, h1, h2 => by
  simp [Tr.parts1] at h1; subst h1
  simp [evalParts1] at h2; subst h2
  exact ⟨rfl, fun k p q hp => by simp at hp⟩
 | (i, x) :: r, as, vs, h1, h2 => by
  simp only [Tr.parts1, Option.bind_eq_some_iff] at h1
  obtain ⟨y, hy, l, hl, h1⟩ := h1
  simp only [Option.some.injEq] at h1
  subst h1
  simp only [evalParts1, Option.bind_eq_some_iff] at h2
  obtain ⟨v, hv, vs', hvs, h2⟩ := h2
  simp only [Option.some.injEq] at h2
  subst h2
  obtain ⟨g1, g2⟩ := evalParts1_rel ho hl hvs
  refine ⟨by simp [g1], fun k p q hp hq => ?_⟩
  cases k with
  | zero => simp at hp hq; subst hp; subst hq; exact ⟨rfl, ho x y v hy hv⟩
  | succ k => simp at hp hq; exact g2 k p q hp (by simpa using hq)
theorem bslice_runs (hh : HeapR A C.N w β h) (hn : β n = none) (hhn : h n = none) (ho : OpdOk C w (Imm A w β h) β ρ a) {t e : TypeId} {size ln : Nat} {z : List V} {ps : Array (Nat × Operand)} {as : List (Nat × AOpd)} {vs : List (Nat × V)} {rows : List (List V)}
    (hu : C.T.P.underlying t = some (.slice e)) (hsz : C.T.size e = some size) (hz : C.T.zero e = some z) (hzl : z.length = size) (hln : ln * size ≤ 16777216) (has : C.T.parts1 ps.toList = some as) (hv : evalParts1 ρ as = some vs) (hf : fillRows size (List.replicate ln z) vs = some rows) :
    Runs A C w β h n { v := .ref n size 0 ln (some ln), new := [.arr size rows] } (do pure (.value (← Instr.buildSlice t ln (ps.map fun (i, x) => (i, a.eval x))))) := by
 obtain ⟨i, v, hi, hzv, hc⟩ := zero_rel (w := w) (β := β) hz (N := C.N) (S := Imm A w β h)
 subst hzl
 have hps : (ps.map fun (i, x) => (i, a.eval x)).toList = ps.toList.map fun p => (p.1, a.eval p.2) := by simp
 obtain ⟨p1, p2⟩ := evalParts1_rel ho has hv
 obtain ⟨ys, g1, g2, g3⟩ := bslice_fill (grid_zero hc ln) (by simp) (by simpa using p1) p2 hf
 simp at g3
 have hrun : (Instr.buildSlice t ln (ps.map fun (i, x) => (i, a.eval x))).run C.T.P w = .ok (.slice (some ⟨w.heap.size, 0, none⟩) ln ln) (w.alloc (.cells ys e)) := by
  by_cases h0 : ln * z.length = 0
  ·have e0 : (Array.range (ln * z.length)).map (fun i => v.cells[i % v.cells.size]!) = #[] := by rw [h0]; simp [Array.range_zero']
   rw [e0] at g1
   simp [Instr.buildSlice, run_underlying hu w, run_sizeOf' hsz w, h0, newRow, Array.range_zero', g1]
  ·have h1 : ¬ (16777216 < ln * z.length) := by omega
   simp [Instr.buildSlice, run_underlying hu w, run_sizeOf' hsz w, h0, h1, newRow, run_zero hi hzv w, g1]
 refine runs_new (w' := w.alloc (.cells ys e)) (fz := (0, 0)) hh hn hhn rfl rfl hrun rfl rfl rfl rfl (by simp) g2 (fun β' S hb => ?_)
 have := Rel.ref (N := C.N) (w := w.alloc (.cells ys e)) (S := S) β' n z.length 0 ln (some ln) w.heap.size (some ⟨w.heap.size, 0, none⟩) ln hb (fun k hk => by cases hk; rfl) (Nat.le_refl _) (.inr (by simp)) (fun _ => ⟨ys, e, (0, 0), by rw [alloc_heap]; simp, by have := g2.2.1; rw [g3] at this; simpa using this, by simp⟩) (by simp)
 exact this
end
end Go.Proofs.YtigdhgbkgfagiaaGreat
