/- AL: stores, new variables, structs, arithmetic, texts: what they yield, they yield in the model. -/
import Derived.Test.YtigdhgbkgfagiaaGreatZAlC
set_option linter.unusedVariables false
namespace Go.Proofs.YtigdhgbkgfagiaaGreat
theorem setCells_heap (b : Nat) (T : TypeId) (fz : Nat × Nat) : ∀ (vs : List Value) (o : Nat) (w : World) (cells : Array Value), w.heap[b]? = some (.cells cells T fz) → o + vs.length ≤ cells.size →
    ∃ cells', (w.setCells b o vs).heap[b]? = some (.cells cells' T fz) ∧ cells'.size = cells.size ∧ (∀ k, k < o ∨ o + vs.length ≤ k → cells'[k]? = cells[k]?) ∧ (∀ j, j < vs.length → cells'[o + j]? = vs[j]?)
 | [], o, w, cells, h, _ => ⟨cells, h, rfl, fun _ _ => rfl, fun j hj => by simp at hj⟩
 | v :: r, o, w, cells, h, hl => by
  have h1 : (w.setCell ⟨b, o, none⟩ v).heap[b]? = some (.cells (cells.setIfInBounds o v) T fz) := by
   simp [World.setCell, Array.getElem?_modify, h]
  obtain ⟨cells', h2, h3, h4, h5⟩ := setCells_heap b T fz r (o + 1) (w.setCell ⟨b, o, none⟩ v) _ h1 (by simp at hl ⊢; omega)
  refine ⟨cells', h2, by simpa using h3, fun k hk => ?_, fun j hj => ?_⟩
  ·rw [h4 k (by simp at hk; omega), Array.getElem?_setIfInBounds_ne (by simp at hk; omega)]
  ·cases j with
   | zero =>
    rw [h4 (o + 0) (by omega)]
    simp at hl
    simp [Array.getElem?_setIfInBounds]
    omega
   | succ j =>
    have := h5 j (by simpa using hj)
    rw [show o + (j + 1) = o + 1 + j by omega, this]
    simp
theorem setCells_same (b : Nat) : ∀ (vs : List Value) (o : Nat) (w : World), (∀ c, c ≠ b → (w.setCells b o vs).heap[c]? = w.heap[c]?) ∧ (w.setCells b o vs).heap.size = w.heap.size ∧ (w.setCells b o vs).os = w.os ∧ (w.setCells b o vs).tape = w.tape ∧ (w.setCells b o vs).output = w.output
 | [], o, w => ⟨fun _ _ => rfl, rfl, rfl, rfl, rfl⟩
 | v :: r, o, w => by
  obtain ⟨h1, h2, h3, h4, h5⟩ := setCells_same b r (o + 1) (w.setCell ⟨b, o, none⟩ v)
  refine ⟨fun c hc => ?_, ?_, h3, h4, h5⟩
  ·rw [World.setCells, h1 c hc]
   simp only [World.setCell, Array.getElem?_modify]
   rw [if_neg (fun e => hc e.symm)]
  ·rw [World.setCells, h2]; simp [World.setCell]
theorem setCells_room (b0 : Nat) (vs : List Value) (o : Nat) (w : World) {cells : Array Value} {T : TypeId} {fz : Nat × Nat} (h : w.heap[b0]? = some (.cells cells T fz)) (hl : o + vs.length ≤ cells.size) (b m : Nat) (hr : Room w b m) : Room (w.setCells b0 o vs) b m := by
 by_cases e : b = b0
 ·subst e
  obtain ⟨cells', h1, h2, _⟩ := setCells_heap b T fz vs o w cells h hl
  obtain ⟨c2, T2, fz2, g1, g2, g3⟩ := hr
  rw [h] at g1
  cases g1
  exact ⟨cells', T, fz, h1, by rw [h2]; exact g2, g3⟩
 ·obtain ⟨c2, T2, fz2, g1, g2⟩ := hr
  exact ⟨c2, T2, fz2, by rw [(setCells_same b0 vs o w).1 b e]; exact g1, g2⟩
theorem run_storeCells_held {P : Program} {w : World} {b o : Nat} {cells : Array Value} {T : TypeId} {fz : Nat × Nat} (hb : w.heap[b]? = some (.cells cells T fz)) (vs : List Value) (hl : o + vs.length ≤ cells.size) (hz : ∀ k, k < cells.size → o ≤ k → k < o + vs.length → ¬ (fz.1 ≤ k ∧ k < fz.2))
    (h1 : ∀ v ∈ vs, v.oneCell' = true) : (storeCells ⟨b, o, none⟩ vs).run P w = .ok () (w.setCells b o vs) := by
 have := run_storeCells_cells (P := P) b o vs 0 w (fun j hj => by
  simp only [World.cell?, hb]
  simp; omega) (fun j hj => by
  have := hz (o + j) (by omega) (by omega) (by omega)
  simp only [World.frozen?, hb]
  simp; omega) h1
 simpa using this
section
variable {A : Nat → Prop} {C : Ctx} {w : World} {β : Nat → Option Nat} {h : Nat → Option Blk} {n : Nat} {ρ : AOpd → Option V} {a : Act}
theorem store_row {row xs : List V} {o k : Nat} (hx : xs.length = k) (ho : o + k ≤ row.length) (j : Nat) :
    (row.take o ++ xs ++ row.drop (o + k))[j]? = if j < o then row[j]? else if j < o + k then xs[j - o]? else row[j]? := by
 by_cases h1 : j < o
 ·rw [if_pos h1, List.append_assoc, List.getElem?_append_left (by simp; omega), List.getElem?_take, if_pos h1]
 ·rw [if_neg h1, List.append_assoc, List.getElem?_append_right (by simp; omega)]
  have hlen : (row.take o).length = o := by simp; omega
  rw [hlen]
  by_cases h2 : j < o + k
  ·rw [if_pos h2, List.getElem?_append_left (by omega)]
  ·rw [if_neg h2, List.getElem?_append_right (by omega), List.getElem?_drop, hx, show o + k + (j - o - k) = j by omega]
theorem store_row_length {row xs : List V} {o k : Nat} (hx : xs.length = k) (ho : o + k ≤ row.length) : (row.take o ++ xs ++ row.drop (o + k)).length = row.length := by
 simp; omega
theorem storeV_runs (hh : HeapR A C.N w β h) {t : TypeId} {k : Nat} (hsz : C.T.size t = some k) {p x : V} {px vx : Value} (hp : Rel C.N w (Imm A w β h) β p px) (hx : Rel C.N w (Imm A w β h) β x vx) {e : Eff} (he : storeV h k p x = some e) :
    Runs A C w β h n e (do Instr.storeAt t px vx; pure .skip) := by
 cases hp with
 | ptr _ a size i o b hb =>
  unfold storeV at he
  cases hk : h a with
  | none => simp only [hk] at he; cases he
  | some kk =>
   cases kk with
   | loop => simp only [hk] at he; cases he
   | stop => simp only [hk] at he; cases he
   | map => simp only [hk] at he; cases he
   | iter => simp only [hk] at he; cases he
   | siter => simp only [hk] at he; cases he
   | junk => simp only [hk] at he; cases he
   | arr size' rows =>
    simp only [hk] at he
    split at he
    ·rename_i hs
     obtain ⟨hs, hxl, hxv⟩ := hs
     subst hs
     simp only [Option.bind_eq_some_iff] at he
     obtain ⟨row, hrow, he⟩ := he
     split at he
     ·rename_i ho
      simp only [Option.some.injEq] at he
      subst he
      obtain ⟨b', h1, h2, hbr⟩ := hh.at' a _ hk
      rw [hb] at h1; cases h1
      obtain ⟨c1, c2, c3⟩ := hx.cells hxv
      obtain ⟨cells, TT, fz, g1, g2, g3, g4⟩ := hbr
      have hi : i < rows.length := (List.getElem?_eq_some_iff.1 hrow).1
      have hrl : row.length = size := g3 i row hrow
      have hin : i * size + o + vx.cells.toList.length ≤ rows.length * size := by
       have : (i + 1) * size ≤ rows.length * size := Nat.mul_le_mul_right _ (by omega)
       rw [Nat.add_mul] at this
       simp [c1, hxl]; omega
      have hfit : i * size + o + vx.cells.toList.length ≤ cells.size := by
       by_cases h0 : i * size + o + vx.cells.toList.length = 0
       ·omega
       ·have := (g2 (i * size + o + vx.cells.toList.length - 1) (by omega)).1; omega
      have hrun := run_storeCells_held (P := C.T.P) g1 vx.cells.toList hfit (fun q hq _ hq2 => (g2 q (by omega)).2) (fun v hv => by
       obtain ⟨q, hq⟩ := List.getElem?_of_mem hv
       exact c2 q v (by simpa using hq))
      obtain ⟨cells', q1, q2, q3, q4⟩ := setCells_heap b TT fz vx.cells.toList (i * size + o) w cells g1 hfit
      obtain ⟨r1, r2, r3, r4, r5⟩ := setCells_same b vx.cells.toList (i * size + o) w
      refine ⟨undef, w.setCells b (i * size + o) vx.cells.toList, .inr ⟨?_, rfl⟩, effOk_upd (b := b) (k' := .arr size (rows.set i (row.take o ++ x.cells ++ row.drop (o + k)))) hh hk hb rfl rfl r1 (setCells_room b _ _ w g1 hfit) r2 r3 r4 r5 (fun S hS => ?_) (fun S hS => .tup _ [] #[] rfl (fun i c y hc => by simp at hc))⟩
      ·rw [Sem.run_bind]
       have : (Instr.storeAt t (.pointer (some ⟨b, i * size + o, none⟩)) vx).run C.T.P w = .ok () (w.setCells b (i * size + o) vx.cells.toList) := by
        simp only [Instr.storeAt, Instr.sureAddr, Sem.run_bind, Sem.run_pure, Result.andThen_ok, storeVar, run_sizeOf' hsz w]
        rw [if_neg (by simp [c1, hxl])]
        exact hrun
       rw [this]; rfl
      ·refine ⟨cells', TT, fz, q1, fun o' ho' => ?_, fun i' row' hr' => ?_, fun i' row' j x' hr' hj => ?_⟩
       ·rw [q2]; exact g2 o' (by simpa using ho')
       ·rw [List.getElem?_set] at hr'
        by_cases e1 : i = i'
        ·subst e1
         simp [hi] at hr'
         subst hr'
         rw [← List.append_assoc, store_row_length hxl ho]; exact hrl
        ·rw [if_neg e1] at hr'; exact g3 i' row' hr'
       ·have hsame : ∀ b0, Imm A w β h b0 → (w.setCells b (i * size + o) vx.cells.toList).heap[b0]? = w.heap[b0]? := fun b0 hb0 =>
          r1 b0 (fun e => by subst e; exact hb0.free ⟨a, by rw [hk]; simp, hb⟩)
        rw [List.getElem?_set] at hr'
        by_cases e1 : i = i'
        ·subst e1
         simp only [if_true, hi] at hr'
         cases hr'
         rw [store_row hxl ho] at hj
         by_cases e2 : j < o
         ·rw [if_pos e2] at hj
          obtain ⟨y, hy, hy1, hyr⟩ := g4 i row j x' hrow hj
          exact ⟨y, by rw [q3 _ (by omega)]; exact hy, hy1, hyr.mono hS hsame (setCells_room b _ _ w g1 hfit) (fun _ _ h => h)⟩
         ·rw [if_neg e2] at hj
          by_cases e3 : j < o + k
          ·rw [if_pos e3] at hj
           have hlt : j - o < vx.cells.toList.length := by simp [c1, hxl]; omega
           obtain ⟨y, hy⟩ : ∃ y, vx.cells.toList[j - o]? = some y := ⟨_, List.getElem?_eq_getElem hlt⟩
           have hy' : vx.cells[j - o]? = some y := by simpa using hy
           refine ⟨y, ?_, c2 _ _ hy', (c3 _ _ _ hj hy').mono hS hsame (setCells_room b _ _ w g1 hfit) (fun _ _ h => h)⟩
           have := q4 (j - o) hlt
           rw [show i * size + o + (j - o) = i * size + j by omega] at this
           rw [this, hy]
          ·rw [if_neg e3] at hj
           obtain ⟨y, hy, hy1, hyr⟩ := g4 i row j x' hrow hj
           exact ⟨y, by rw [q3 _ (by simp [c1, hxl]; omega)]; exact hy, hy1, hyr.mono hS hsame (setCells_room b _ _ w g1 hfit) (fun _ _ h => h)⟩
        ·rw [if_neg e1] at hr'
         obtain ⟨y, hy, hy1, hyr⟩ := g4 i' row' j x' hr' hj
         have hj' : j < size := by rw [← g3 i' row' hr']; exact (List.getElem?_eq_some_iff.1 hj).1
         refine ⟨y, ?_, hy1, hyr.mono hS hsame (setCells_room b _ _ w g1 hfit) (fun _ _ h => h)⟩
         rw [q3 _ ?_]
         ·exact hy
         ·rcases Nat.lt_or_gt_of_ne e1 with e4 | e4
          ·have : (i + 1) * size ≤ i' * size := Nat.mul_le_mul_right _ e4
           rw [Nat.add_mul] at this
           simp [c1, hxl]; omega
          ·have : (i' + 1) * size ≤ i * size := Nat.mul_le_mul_right _ e4
           rw [Nat.add_mul] at this
           omega
     ·cases he
    ·cases he
 | _ => simp [storeV] at he
theorem fold_put (off : Nat) : ∀ (l : List Value) (st : Nat) (cs : Array Value), ((l.zipIdx st).foldl (fun cs (p : Value × Nat) => cs.setIfInBounds (off + p.2) p.1) cs).size = cs.size ∧
    ∀ k, ((l.zipIdx st).foldl (fun cs (p : Value × Nat) => cs.setIfInBounds (off + p.2) p.1) cs)[k]? = if off + st ≤ k ∧ k < off + st + l.length ∧ k < cs.size then l[k - (off + st)]? else cs[k]?
 | [], st, cs => ⟨rfl, fun k => by rw [if_neg (by simp; omega)]; rfl⟩
 | v :: r, st, cs => by
  obtain ⟨h1, h2⟩ := fold_put off r (st + 1) (cs.setIfInBounds (off + st) v)
  rw [List.zipIdx_cons, List.foldl_cons]
  refine ⟨by rw [h1]; simp, fun k => ?_⟩
  rw [h2 k]
  simp only [Array.size_setIfInBounds, List.length_cons]
  by_cases e1 : off + (st + 1) ≤ k ∧ k < off + (st + 1) + r.length ∧ k < cs.size
  ·rw [if_pos e1, if_pos (by omega)]
   rw [show k - (off + st) = k - (off + (st + 1)) + 1 by omega]; simp
  ·rw [if_neg e1]
   by_cases e2 : k = off + st
   ·subst e2
    by_cases e3 : off + st < cs.size
    ·rw [if_pos (by omega)]; simp [e3]
    ·rw [if_neg (by omega), Array.getElem?_eq_none (by simp; omega), Array.getElem?_eq_none (by omega)]
   ·rw [if_neg (by omega), Array.getElem?_setIfInBounds_ne (by omega)]
def CellsR (N : Nums) (w : World) (S : Nat → Prop) (β : Nat → Option Nat) (cs : List V) (ys : Array Value) : Prop :=
 ys.size = cs.length ∧ (∀ (i : Nat) (y : Value), ys[i]? = some y → y.oneCell' = true) ∧ ∀ (i : Nat) (c : V) (y : Value), cs[i]? = some c → ys[i]? = some y → Rel N w S β c y
theorem CellsR.get {N : Nums} {S : Nat → Prop} {cs : List V} {ys : Array Value} (hc : CellsR N w S β cs ys) {i : Nat} {c : V} (h : cs[i]? = some c) : ∃ y, ys[i]? = some y ∧ y.oneCell' = true ∧ Rel N w S β c y := by
 have : i < ys.size := by rw [hc.1]; exact (List.getElem?_eq_some_iff.1 h).1
 exact ⟨ys[i], Array.getElem?_eq_getElem this, hc.2.1 i _ (Array.getElem?_eq_getElem this), hc.2.2 i c _ h (Array.getElem?_eq_getElem this)⟩
theorem CellsR.mk' {N : Nums} {S : Nat → Prop} {cs : List V} {ys : Array Value} (h : ys.size = cs.length) (hg : ∀ (i : Nat) (c : V), cs[i]? = some c → ∃ y, ys[i]? = some y ∧ y.oneCell' = true ∧ Rel N w S β c y) : CellsR N w S β cs ys := by
 refine ⟨h, fun i y hy => ?_, fun i c y hc hy => ?_⟩
 ·have : i < cs.length := by rw [← h]; exact (Array.getElem?_eq_some_iff.1 hy).1
  obtain ⟨y', h1, h2, _⟩ := hg i _ (List.getElem?_eq_getElem this)
  rw [hy] at h1; cases h1; exact h2
 ·obtain ⟨y', h1, _, h2⟩ := hg i c hc
  rw [hy] at h1; cases h1; exact h2
theorem Rel.cellsR {N : Nums} {S : Nat → Prop} {v : V} {x : Value} (h : Rel N w S β v x) (hv : v.isVal = true) : CellsR N w S β v.cells x.cells := h.cells hv
theorem CellsR.put {N : Nums} {S : Nat → Prop} {cs : List V} {ys : Array Value} (hc : CellsR N w S β cs ys) {vs : List V} {xs : Array Value} (hv : CellsR N w S β vs xs) {off size : Nat} (hs : vs.length = size) (hf : off + size ≤ cs.length) :
    CellsR N w S β (cs.take off ++ vs ++ cs.drop (off + size)) (xs.zipIdx.foldl (fun cs (c, j) => cs.setIfInBounds (off + j) c) ys) := by
 have e : xs.zipIdx.foldl (fun cs (c, j) => cs.setIfInBounds (off + j) c) ys = (xs.toList.zipIdx 0).foldl (fun cs (p : Value × Nat) => cs.setIfInBounds (off + p.2) p.1) ys := by
  rw [← Array.foldl_toList, Array.toList_zipIdx]
 obtain ⟨h1, h2⟩ := fold_put off xs.toList 0 ys
 rw [e]
 refine .mk' (by rw [h1, hc.1, store_row_length hs hf]) (fun i c hi => ?_)
 rw [store_row hs hf] at hi
 rw [h2 i]
 have hx := hv.1
 by_cases e1 : i < off
 ·rw [if_pos e1] at hi
  rw [if_neg (by omega)]; exact hc.get hi
 ·rw [if_neg e1] at hi
  by_cases e2 : i < off + size
  ·rw [if_pos e2] at hi
   rw [if_pos ⟨by omega, by simp; omega, by rw [hc.1]; omega⟩]
   obtain ⟨y, hy, r⟩ := hv.get hi
   exact ⟨y, by simpa using hy, r⟩
  ·rw [if_neg e2] at hi
   rw [if_neg (by simp; omega)]; exact hc.get hi
inductive PartsR (N : Nums) (w : World) (S : Nat → Prop) (β : Nat → Option Nat) (place : Nat → Option (Nat × Nat)) : List (Nat × Nat × V) → List (Nat × Value) → Prop where
 | nil : PartsR N w S β place [] []
 | cons {i off size : Nat} {v : V} {x : Value} {l : List (Nat × Nat × V)} {m : List (Nat × Value)} (hp : place i = some (off, size)) (h : Rel N w S β v x) (r : PartsR N w S β place l m) : PartsR N w S β place ((off, size, v) :: l) ((i, x) :: m)
theorem fill_rel {N : Nums} {S : Nat → Prop} {place : Nat → Option (Nat × Nat)} {l : List (Nat × Nat × V)} {m : List (Nat × Value)} (hp : PartsR N w S β place l m) :
    ∀ {cs cs' : List V} {ys : Array Value}, CellsR N w S β cs ys → fillCells cs l = some cs' → ∃ ys', Instr.fill place ys m = some ys' ∧ CellsR N w S β cs' ys' := by
 induction hp with
 | nil => intro cs cs' ys hc h; simp [fillCells] at h; subst h; exact ⟨ys, rfl, hc⟩
 | cons hpl hr _ ih =>
  intro cs cs' ys hc h
  simp only [fillCells] at h
  split at h
  ·rename_i hcond
   obtain ⟨h1, h2, h3⟩ := hcond
   have hv := hr.cellsR h2
   obtain ⟨ys', g1, g2⟩ := ih (hc.put hv h1 h3) h
   refine ⟨ys', ?_, g2⟩
   simp only [Instr.fill, hpl]
   rw [if_neg (by simp [hv.1, h1, hc.1]; omega)]
   exact g1
  ·cases h
theorem evalParts_rel {S : Nat → Prop} (ho : OpdOk C w S β ρ a) {place place' : Nat → Option (Nat × Nat)} : ∀ {ps : List (Nat × Operand)} {as : List (Nat × Nat × AOpd)} {vs : List (Nat × Nat × V)}, C.T.parts place ps = some as → evalParts ρ as = some vs →
    (∀ i q, place i = some q → place' i = some q) → PartsR C.N w S β place' vs (ps.map fun p => (p.1, a.eval p.2))
 | [], as, vs, h1, h2, _ => by
  simp [Tr.parts] at h1; subst h1
  simp [evalParts] at h2; subst h2
  exact .nil
 | (i, x) :: r, as, vs, h1, h2, hpl => by
  simp only [Tr.parts, Option.bind_eq_some_iff] at h1
  obtain ⟨⟨o, s⟩, hp, y, hy, l, hl, h1⟩ := h1
  simp only [Option.some.injEq] at h1
  subst h1
  simp only [evalParts, Option.bind_eq_some_iff] at h2
  obtain ⟨v, hv, vs', hvs, h2⟩ := h2
  simp only [Option.some.injEq] at h2
  subst h2
  exact .cons (hpl _ _ hp) (ho x y v hy hv) (evalParts_rel ho hl hvs hpl)
theorem zero_rel {T : Tr} {t : TypeId} {z : List V} (hz : T.zero t = some z) {N : Nums} {S : Nat → Prop} : ∃ i v, T.P.info? t = some i ∧ i.zero = some v ∧ CellsR N w S β z v.cells := by
 unfold Tr.zero at hz
 cases hq : T.P.info? t with
 | none => rw [hq] at hz; cases hz
 | some i =>
  rw [hq] at hz
  simp only [Option.bind_some, Option.bind_eq_some_iff] at hz
  obtain ⟨v, hv, hz⟩ := hz
  obtain ⟨h1, h2, h3⟩ := V.ofs_rel (N := N) (w := w) (S := S) (β := β) v.cells.toList z hz
  exact ⟨i, v, rfl, hv, by simpa using h1, fun i y hy => h3 i y (by simpa using hy), fun i c y hc hy => h2 i c y hc (by simpa using hy)⟩
theorem run_zero {T : Tr} {t : TypeId} {i : TypeInfo} {v : Value} (hi : T.P.info? t = some i) (hv : i.zero = some v) (w : World) : (zeroValue t).run T.P w = .ok v w := by
 simp [zeroValue, Sem.run_bind, run_info' hi w, hv]
theorem build_runs (hh : HeapR A C.N w β h) (ho : OpdOk C w (Imm A w β h) β ρ a) {t : TypeId} {ps : Array (Nat × Operand)} {z : List V} {as : List (Nat × Nat × AOpd)} {vs : List (Nat × Nat × V)} {cs : List V} (hop : C.T.op (.build t ps) = some (.build z as))
    (hv : evalParts ρ as = some vs) (hf : fillCells z vs = some cs) : Runs A C w β h n { v := .agg cs } (do pure (.value (← Instr.build t (ps.map fun (i, x) => (i, a.eval x))))) := by
 have hps : (ps.map fun (i, x) => (i, a.eval x)).toList = ps.toList.map fun p => (p.1, a.eval p.2) := by simp
 simp only [Tr.op] at hop
 split at hop
 ·rename_i fs hu
  simp only [Option.bind_eq_some_iff, Option.map_eq_some_iff] at hop
  obtain ⟨places, hplaces, z', hz, as', has, hop⟩ := hop
  injection hop with e1 e2
  subst e1; subst e2
  obtain ⟨i, v, hi, hzv, hc⟩ := zero_rel (w := w) (β := β) hz (N := C.N) (S := Imm A w β h)
  have hpm := run_places (P := C.T.P) w fs.toList places hplaces
  obtain ⟨ys, g1, g2⟩ := fill_rel (evalParts_rel ho has hv (place' := (places[·]?)) (fun _ _ h => h)) hc hf
  refine runs_same hh rfl rfl (x := .agg ys) ?_ (.agg _ cs ys g2.1 g2.2.1 g2.2.2)
  simp [Instr.build, run_zero hi hzv w, run_underlying hu w, hpm, Array.mapM_eq_mapM_toList, g1]
 ·rename_i k e hu
  simp only [Option.bind_eq_some_iff, Option.map_eq_some_iff] at hop
  obtain ⟨z', hz, s, hs, as', has, hop⟩ := hop
  injection hop with e1 e2
  subst e1; subst e2
  obtain ⟨i, v, hi, hzv, hc⟩ := zero_rel (w := w) (β := β) hz (N := C.N) (S := Imm A w β h)
  obtain ⟨ys, g1, g2⟩ := fill_rel (evalParts_rel ho has hv (place' := fun i => some (i * s, s)) (fun _ _ h => h)) hc hf
  refine runs_same hh rfl rfl (x := .agg ys) ?_ (.agg _ cs ys g2.1 g2.2.1 g2.2.2)
  unfold Instr.build
  simp only [Sem.run_bind, run_zero hi hzv w, Result.andThen_ok, run_underlying hu w, hps, run_sizeOf' hs w]
  rw [g1]; rfl
 ·cases hop
end
end Go.Proofs.YtigdhgbkgfagiaaGreat
