/- AL: append and copy: what they yield, they yield in the model, whatever the capacities. -/
import Derived.Test.YtigdhgbkgfagiaaGreatZAlE
set_option linter.unusedVariables false
namespace Go.Proofs.YtigdhgbkgfagiaaGreat
section
variable {A : Nat → Prop} {C : Ctx} {w : World} {β : Nat → Option Nat} {h : Nat → Option Blk} {n : Nat} {ρ : AOpd → Option V} {a : Act}
def SrcR (P : Program) (N : Nums) (w : World) (S : Nat → Prop) (β : Nat → Option Nat) (size : Nat) (rows : List (List V)) (x : Value) : Prop :=
 ∃ cs : List Value, cs.length = rows.length * size ∧ GridR N w S β size rows cs.toArray ∧ (∀ v ∈ cs, v.oneCell' = true) ∧ (∀ w', (Builtin.lenOf x).run P w' = .ok rows.length w') ∧
  ∀ (k : Nat) (w' : World), k ≤ rows.length → (∀ b, (S b ∨ ∃ a, β a = some b) → w'.heap[b]? = w.heap[b]?) → (Builtin.firstCells size k x).run P w' = .ok (cs.take (k * size)).toArray w'
theorem divmod_grid {i j size : Nat} (hj : j < size) : (i * size + j) / size = i ∧ (i * size + j) % size = j := by
 constructor
 ·rw [Nat.mul_comm, Nat.mul_add_div (by omega), Nat.div_eq_of_lt hj, Nat.add_zero]
 ·rw [Nat.mul_comm, Nat.mul_add_mod, Nat.mod_eq_of_lt hj]
theorem grid_split {k size len : Nat} (h : k < len * size) : k / size < len ∧ k % size < size ∧ k / size * size + k % size = k := by
 have hs : 0 < size := by
  rcases Nat.eq_zero_or_pos size with rfl | h0
  ·simp at h
  ·exact h0
 exact ⟨(Nat.div_lt_iff_lt_mul hs).2 h, Nat.mod_lt _ hs, Nat.div_add_mod' k size⟩
theorem src_mk {N : Nums} {S : Nat → Prop} {size : Nat} {rows : List (List V)} (hr : ∀ (i : Nat) (row : List V), rows[i]? = some row → row.length = size) (f : Nat → Nat → Value)
    (hf : ∀ (i : Nat) (row : List V) (j : Nat) (x : V), rows[i]? = some row → row[j]? = some x → (f i j).oneCell' = true ∧ Rel N w S β x (f i j)) :
    ∃ cs : List Value, cs.length = rows.length * size ∧ GridR N w S β size rows cs.toArray ∧ (∀ v ∈ cs, v.oneCell' = true) ∧ ∀ (k : Nat), k < rows.length * size → cs[k]? = some (f (k / size) (k % size)) := by
 have hcell : ∀ k, k < rows.length * size → ∃ row x, rows[k / size]? = some row ∧ row[k % size]? = some x := fun k hk => by
  obtain ⟨h1, h2, _⟩ := grid_split hk
  have h3 : rows[k / size]? = some rows[k / size] := List.getElem?_eq_getElem h1
  have h4 := hr _ _ h3
  exact ⟨_, _, h3, List.getElem?_eq_getElem (by omega)⟩
 refine ⟨(List.range (rows.length * size)).map fun k => f (k / size) (k % size), by simp, ⟨hr, by simp, fun i row j x hi hj => ?_⟩, fun v hv => ?_, fun k hk => by simp [hk]⟩
 ·have hj' : j < size := by rw [← hr i row hi]; exact (List.getElem?_eq_some_iff.1 hj).1
  have hi' := (List.getElem?_eq_some_iff.1 hi).1
  obtain ⟨h1, h2⟩ := hf i row j x hi hj
  obtain ⟨e1, e2⟩ := divmod_grid (i := i) hj'
  exact ⟨f i j, by simp [grid_lt hi' hj', e1, e2], h1, h2⟩
 ·obtain ⟨k, hk, rfl⟩ := List.mem_map.1 hv
  rw [List.mem_range] at hk
  obtain ⟨row, x, h1, h2⟩ := hcell k hk
  exact (hf _ row _ x h1 h2).1
theorem take_get {cs : List Value} {k j : Nat} {v : Value} (h : (cs.take k)[j]? = some v) : cs[j]? = some v ∧ j < k := by
 rw [List.getElem?_take] at h
 split at h
 ·exact ⟨h, by assumption⟩
 ·cases h
theorem src_of (hh : HeapR A C.N w β h) {size : Nat} {x : V} {vx : Value} (hx : Rel C.N w (Imm A w β h) β x vx) {rows : List (List V)} {nd : List Nat} (hs : rowsOf size h x = some (rows, nd)) : SrcR C.T.P C.N w (Imm A w β h) β size rows vx := by
 cases hx with
 | lst _ size' rows' cap a c b off ys hc hlc ha hn hr hy hrel =>
  simp only [rowsOf] at hs
  split at hs
  ·rename_i hcond
   simp only [Option.some.injEq, Prod.mk.injEq] at hs
   obtain ⟨rfl, -⟩ := hs
   have hr' : ∀ (i : Nat) (row : List V), rows'[i]? = some row → row.length = size := fun i row hi => by
    rcases hcond with rfl | h0
    ·exact hr i row hi
    ·rw [List.getElem?_eq_none (by omega)] at hi; cases hi
   obtain ⟨cs, c1, c2, c3, c4⟩ := src_mk (N := C.N) (w := w) (S := Imm A w β h) (β := β) hr' ys (fun i row j x hi hj => ⟨(hy i row j x hi hj).2, (hrel i row j x hi hj).mono (fun _ h => h) (fun _ _ => rfl) (fun _ _ h => h) (fun _ _ h => by cases h)⟩)
   refine ⟨cs, c1, c2, c3, fun w' => rfl, fun k w' hk hw' => ?_⟩
   by_cases h0 : 0 < rows'.length
   ·obtain ⟨rfl, hS⟩ := ha h0
    refine run_firstCells_some w' size k _ _ _ (cs.take (k * size)) (by rw [List.length_take, c1]; exact Nat.min_eq_left (Nat.mul_le_mul_right _ hk)) (fun j v hv => ?_)
    obtain ⟨g1, g2⟩ := take_get hv
    have hj : j < rows'.length * size := by rw [← c1]; exact (List.getElem?_eq_some_iff.1 g1).1
    rw [c4 j hj] at g1
    cases g1
    obtain ⟨q1, q2, q3⟩ := grid_split hj
    have h3 : rows'[j / size]? = some rows'[j / size] := List.getElem?_eq_getElem q1
    have h4 := hr' _ _ h3
    have hsz : size' = size := by rw [← hr _ _ h3, h4]
    have := (hy _ _ _ _ h3 (List.getElem?_eq_getElem (i := j % size) (by omega))).1
    rw [Addr.add_mid, cell_same (hw' b (.inl hS)), ← this, hsz]
    congr 2
    omega
   ·have hk0 : k = 0 := by omega
    subst hk0
    have : cs.take (0 * size) = [] := by simp
    rw [this]
    cases a with
    | none => simp [Builtin.firstCells]
    | some a => simp [Builtin.firstCells, loadCells, loadCellsFrom]
  ·cases hs
 | str _ s =>
  simp only [rowsOf] at hs
  split at hs
  ·rename_i h1
   subst h1
   simp only [Option.some.injEq, Prod.mk.injEq] at hs
   obtain ⟨rfl, -⟩ := hs
   have hr' : ∀ (i : Nat) (row : List V), (s.data.toList.map fun b => [V.int .u8 b.toNat])[i]? = some row → row.length = 1 := fun i row hi => by
    rw [List.getElem?_map] at hi
    cases hq : s.data.toList[i]? with
    | none => rw [hq] at hi; cases hi
    | some b => rw [hq] at hi; simp at hi; rw [← hi]; rfl
   obtain ⟨cs, c1, c2, c3, c4⟩ := src_mk (N := C.N) (w := w) (S := Imm A w β h) (β := β) hr' (fun i _ => .int .u8 ((s.data.toList[i]?).getD 0).toNat) (fun i row j x hi hj => by
    rw [List.getElem?_map] at hi
    cases hq : s.data.toList[i]? with
    | none => rw [hq] at hi; cases hi
    | some b =>
     rw [hq] at hi; simp only [Option.map_some, Option.some.injEq] at hi
     subst hi
     cases j with
     | zero => simp at hj; subst hj; exact ⟨rfl, .int _ _ _⟩
     | succ j => simp at hj)
   refine ⟨cs, c1, c2, c3, fun w' => by simp [Builtin.lenOf], fun k w' hk hw' => ?_⟩
   simp only [Builtin.firstCells, Sem.run_pure, Result.ok.injEq, and_true]
   apply Array.ext'
   apply List.ext_getElem?
   intro j
   simp only [List.length_map] at hk
   simp only [Array.toList_map, List.getElem?_map, Nat.mul_one, List.getElem?_take]
   have hex : (s.extract 0 k).data.toList = s.data.toList.take k := by
    simp [ByteArray.extract, ByteArray.copySlice]
   rw [hex, List.getElem?_take]
   by_cases hj : j < k
   ·rw [if_pos hj, if_pos hj, c4 j (by simp at hk ⊢; omega)]
    have : s.data.toList[j]? = some s.data.toList[j] := List.getElem?_eq_getElem (by simp at hk ⊢; omega)
    have hj2 : j < s.data.size := by simpa using (List.getElem?_eq_some_iff.1 this).1
    have hgd : s.data[j]? = some (s.data[j]'hj2) := Array.getElem?_eq_getElem hj2
    simp [Nat.div_one, hgd]
   ·rw [if_neg hj, if_neg hj]; rfl
  ·cases hs
 | ref _ a size' off len cap b x c hb hc hlc hx hm =>
  simp only [rowsOf] at hs
  cases hk : h a with
  | none => rw [hk] at hs; cases hs
  | some kk =>
   cases kk with
   | loop => rw [hk] at hs; cases hs
   | stop => rw [hk] at hs; cases hs
   | map => rw [hk] at hs; cases hs
   | iter => rw [hk] at hs; cases hs
   | siter => rw [hk] at hs; cases hs
   | junk => rw [hk] at hs; cases hs
   | arr size'' rows' =>
    simp only [hk] at hs
    split at hs
    ·rename_i hcond
     obtain ⟨rfl, rfl, hle⟩ := hcond
     simp only [Option.some.injEq, Prod.mk.injEq] at hs
     obtain ⟨rfl, -⟩ := hs
     obtain ⟨b', h1, h2, h3⟩ := hh.at' a _ hk
     rw [hb] at h1; cases h1
     obtain ⟨cells, T, fz, g1, g2, g3, g4⟩ := h3
     have hrow : ∀ (i : Nat) (row : List V), ((rows'.drop off).take len)[i]? = some row → rows'[off + i]? = some row ∧ i < len := fun i row hi => by
      rw [List.getElem?_take] at hi
      split at hi
      ·rw [List.getElem?_drop] at hi; exact ⟨hi, by assumption⟩
      ·cases hi
     obtain ⟨cs, c1, c2, c3, c4⟩ := src_mk (N := C.N) (w := w) (S := Imm A w β h) (β := β) (rows := (rows'.drop off).take len) (size := size'') (fun i row hi => g3 _ _ (hrow i row hi).1) (fun i j => (cells[(off + i) * size'' + j]?).getD undef) (fun i row j x hi hj => by
      obtain ⟨y, q1, q2, q3⟩ := g4 _ row j x (hrow i row hi).1 hj
      rw [q1]; exact ⟨q2, q3⟩)
     have hlen : ((rows'.drop off).take len).length = len := by simp; omega
     refine ⟨cs, c1, c2, c3, fun w' => by rw [hlen]; rfl, fun k w' hk' hw' => ?_⟩
     rw [hlen] at hk'
     by_cases h0 : k * size'' = 0
     ·have e1 : cs.take (k * size'') = [] := by rw [h0]; simp
      rw [e1]
      cases x with
      | none => simp [Builtin.firstCells]
      | some a => simp [Builtin.firstCells, loadCells, h0, loadCellsFrom]
     ·have hc0 : c ≠ 0 := fun e => by
        have : k = 0 := by omega
        rw [this] at h0; simp at h0
      rcases hx with hx | hx
      ·exact absurd hx hc0
      ·subst hx
       refine run_firstCells_some w' size'' k _ _ _ (cs.take (k * size'')) (by rw [List.length_take, c1, hlen]; exact Nat.min_eq_left (Nat.mul_le_mul_right _ hk')) (fun j v hv => ?_)
       obtain ⟨p1, p2⟩ := take_get hv
       have hj : j < ((rows'.drop off).take len).length * size'' := by rw [← c1]; exact (List.getElem?_eq_some_iff.1 p1).1
       rw [c4 j hj] at p1
       cases p1
       obtain ⟨q1, q2, q3⟩ := grid_split hj
       have e2 : (off + j / size'') * size'' + j % size'' = off * size'' + j := by rw [Nat.add_mul]; omega
       rw [hlen] at q1
       have hlt : off * size'' + j < cells.size := by
        have : (off + j / size'' + 1) * size'' ≤ rows'.length * size'' := Nat.mul_le_mul_right _ (by omega)
        have := (g2 (off * size'' + j) (by rw [← e2]; exact grid_lt (by omega) q2)).1
        exact this
       rw [Addr.add_mid, cell_same (hw' b (.inr ⟨a, hb⟩)), e2]
       simp only [World.cell?, g1]
       simp [hlt]
    ·cases hs
 | _ => simp [rowsOf] at hs
structure AppT (T : Tr) (t u e : TypeId) (size bts : Nat) : Prop where
 ht : T.P.underlying t = some (.slice e)
 hu : (∃ e', T.P.underlying u = some (.slice e')) ∨ T.P.underlying u = some .string
 hs : T.size e = some size
 hb : T.bytes e = some bts
 hz : ∃ z, T.zero e = some z ∧ z.length = size
 h0 : 0 < size
 h1 : 0 < bts
theorem AppT.zeros {T : Tr} {t u e : TypeId} {size bts : Nat} (ha : AppT T t u e size bts) (w : World) : ((underlying u >>= fun d => pure (d matches .int _) : Sem Bool)).run T.P w = .ok false w := by
 rcases ha.hu with ⟨e', h⟩ | h <;> rw [Sem.run_bind, run_underlying h w] <;> rfl
theorem run_append_in {T : Tr} {t u e ty : TypeId} {size bts : Nat} (ha : AppT T t u e size bts) {base : Option Addr} {sLen sCap k : Nat} {vx : Value} {cs : List Value} {w2 : World} (hl : (Builtin.lenOf vx).run T.P w = .ok k w) (hk : sLen + k ≤ sCap)
    (hf : (Builtin.firstCells size k vx).run T.P w = .ok cs.toArray w) (hst : (match base with | some a => (storeCells (a.add (sLen * size)) cs).run T.P w | none => .ok () w) = .ok () w2) :
    (Builtin.append_ #[t, u] ty #[.slice base sLen sCap, vx]).run T.P w = .ok (.slice base (sLen + k) sCap) w2 := by
 have hz := ha.zeros w
 unfold Builtin.append_
 rcases ha.hu with ⟨e', hu⟩ | hu
 all_goals
  cases base with
  | none => simp at hst; subst hst; simp [run_underlying ha.ht w, run_underlying hu w, run_sizeOf' ha.hs w, hl, hk, hf]
  | some ad => simp only at hst; simp [run_underlying ha.ht w, run_underlying hu w, run_sizeOf' ha.hs w, hl, hk, hf, hst]
theorem run_append_new {T : Tr} {t u e ty : TypeId} {size bts : Nat} (ha : AppT T t u e size bts) {base : Option Addr} {sLen sCap k : Nat} {vx : Value} {olds cs : List Value} (hl : (Builtin.lenOf vx).run T.P w = .ok k w) (hk : sCap < sLen + k)
    (ho : (Builtin.firstCells size sLen (.slice base sLen sCap)).run T.P w.drew = .ok olds.toArray w.drew) (hf : (Builtin.firstCells size k vx).run T.P w.drew = .ok cs.toArray w.drew) (hroom : (sLen + k) * bts ≤ 140737488355328) :
    ∃ (cap : Nat) (rest : List Value), sLen + k ≤ cap ∧ rest.length = (cap - (sLen + k)) * size ∧ (Builtin.append_ #[t, u] ty #[.slice base sLen sCap, vx]).run T.P w = .ok (.slice (some ⟨w.heap.size, 0, none⟩) (sLen + k) cap) (w.drew.alloc (.cells (olds ++ cs ++ rest).toArray e)) := by
 obtain ⟨z, hz, hzl⟩ := ha.hz
 obtain ⟨i, v, hi, hzv, hc⟩ := zero_rel (w := w) (β := fun _ => none) hz (N := ⟨fun _ => none, fun _ => none, fun _ _ _ => False⟩) (S := fun _ => True)
 have hbi : i.bytes = bts := by have := ha.hb; unfold Tr.bytes at this; rw [hi] at this; simpa using this
 have hfit := growslice_fits hk hroom
 have h1 := ha.h1
 have n1 : ¬ (sLen + k ≤ sCap) := by omega
 have n3 : ¬ (281474976710656 < Builtin.nextslicecap (sLen + k) sCap * i.bytes) := by rw [hbi]; omega
 have n4 : i.bytes ≠ 0 := by omega
 refine ⟨grownCap w (sLen + k) sCap e, (Builtin.zeroCells v.cells (grownCap w (sLen + k) sCap e - (sLen + k))).toList, grownCap_ge _ _ _ _, by simp [size_zeroCells, hc.1, hzl], ?_⟩
 unfold Builtin.append_
 rcases ha.hu with ⟨e', hu⟩ | hu
 all_goals
  simp [run_underlying ha.ht w, run_underlying hu w, run_sizeOf' ha.hs w, hl, n1, n3, n4, Question.forced, ho, hf, newRow, grownCap, typeInfo, zeroValue, hi, hzv]
  try (congr 2; apply Array.ext'; simp)
theorem grid_append {N : Nums} {S : Nat → Prop} {size : Nat} {rows ys : List (List V)} {cs ds rest : List Value} (h1 : GridR N w S β size rows cs.toArray) (l1 : cs.length = rows.length * size) (h2 : GridR N w S β size ys ds.toArray) :
    GridR N w S β size (rows ++ ys) (cs ++ ds ++ rest).toArray := by
 refine ⟨fun i row hi => ?_, ?_, fun i row j x hi hj => ?_⟩
 ·rw [List.getElem?_append] at hi
  split at hi
  ·exact h1.1 i row hi
  ·exact h2.1 _ row hi
 ·have g := h2.2.1
  simp at g
  simp [Nat.add_mul, l1]; omega
 ·rw [List.getElem?_append] at hi
  split at hi
  ·rename_i hlt
   obtain ⟨y, q1, q2, q3⟩ := h1.2.2 i row j x hi hj
   refine ⟨y, ?_, q2, q3⟩
   have hj' : j < size := by rw [← h1.1 i row hi]; exact (List.getElem?_eq_some_iff.1 hj).1
   have := grid_lt hlt hj'
   simp only [List.getElem?_toArray] at q1 ⊢
   rw [List.append_assoc, List.getElem?_append_left (by omega)]; exact q1
  ·rename_i hge
   obtain ⟨y, q1, q2, q3⟩ := h2.2.2 _ row j x hi hj
   refine ⟨y, ?_, q2, q3⟩
   simp only [List.getElem?_toArray] at q1 ⊢
   have e1 : i * size + j = rows.length * size + ((i - rows.length) * size + j) := by
    have : i = rows.length + (i - rows.length) := by omega
    conv => lhs; rw [this]
    rw [Nat.add_mul]; omega
   have hlt := (List.getElem?_eq_some_iff.1 q1).1
   rw [List.append_assoc, List.getElem?_append_right (by omega), l1, e1, Nat.add_sub_cancel_left, List.getElem?_append_left hlt]
   exact q1
theorem over_length {l r : List (List V)} {k : Nat} (hk : k + r.length ≤ l.length) : (over l k r).length = l.length := by
 unfold over; simp; omega
theorem over_get {l r : List (List V)} {k : Nat} (hk : k + r.length ≤ l.length) (i : Nat) : (over l k r)[i]? = if i < k then l[i]? else if i < k + r.length then r[i - k]? else l[i]? := by
 unfold over
 by_cases h1 : i < k
 ·rw [if_pos h1, List.append_assoc, List.getElem?_append_left (by simp; omega), List.getElem?_take, if_pos h1]
 ·have hlen : (l.take k).length = k := by simp; omega
  rw [if_neg h1, List.append_assoc, List.getElem?_append_right (by omega), hlen]
  by_cases h2 : i < k + r.length
  ·rw [if_pos h2, List.getElem?_append_left (by omega)]
  ·rw [if_neg h2, List.getElem?_append_right (by omega), List.getElem?_drop, show k + r.length + (i - k - r.length) = i by omega]
theorem blk_over {N : Nums} {S S' : Nat → Prop} {size k : Nat} {rows ys : List (List V)} {b : Nat} (hb : BlkR N w S β (.arr size rows) b) {cs : List Value} (hl : cs.length = ys.length * size) (hg : GridR N w S β size ys cs.toArray) (hk : k + ys.length ≤ rows.length) {w' : World}
    (hw' : w' = w.setCells b (k * size) cs) (hS : ∀ b, S b → S' b) (hsame : ∀ b, S b → w'.heap[b]? = w.heap[b]?) (hroom : ∀ b m, Room w b m → Room w' b m) : BlkR N w' S' β (.arr size (over rows k ys)) b := by
 obtain ⟨cells, T, fz, g1, g2, g3, g4⟩ := hb
 have hin : k * size + cs.length ≤ rows.length * size := by rw [hl, ← Nat.add_mul]; exact Nat.mul_le_mul_right _ hk
 have hfit : k * size + cs.length ≤ cells.size := by
  by_cases h0 : k * size + cs.length = 0
  ·omega
  ·have := (g2 (k * size + cs.length - 1) (by omega)).1; omega
 obtain ⟨cells', q1, q2, q3, q4⟩ := setCells_heap b T fz cs (k * size) w cells g1 hfit
 refine ⟨cells', T, fz, by rw [hw']; exact q1, fun o ho => ?_, fun i row hi => ?_, fun i row j x hi hj => ?_⟩
 ·rw [q2]; exact g2 o (by rw [over_length hk] at ho; exact ho)
 ·rw [over_get hk] at hi
  split at hi
  ·exact g3 i row hi
  ·split at hi
   ·exact hg.1 _ row hi
   ·exact g3 i row hi
 ·rw [over_get hk] at hi
  by_cases e1 : i < k
  ·rw [if_pos e1] at hi
   obtain ⟨y, p1, p2, p3⟩ := g4 i row j x hi hj
   have hj' : j < size := by rw [← g3 i row hi]; exact (List.getElem?_eq_some_iff.1 hj).1
   exact ⟨y, by rw [q3 _ (.inl (grid_lt e1 hj'))]; exact p1, p2, p3.mono hS hsame hroom (fun _ _ h => h)⟩
  ·rw [if_neg e1] at hi
   by_cases e2 : i < k + ys.length
   ·rw [if_pos e2] at hi
    obtain ⟨y, p1, p2, p3⟩ := hg.2.2 _ row j x hi hj
    simp only [List.getElem?_toArray] at p1
    have hlt := (List.getElem?_eq_some_iff.1 p1).1
    have e3 : i * size + j = k * size + ((i - k) * size + j) := by
     have : i = k + (i - k) := by omega
     conv => lhs; rw [this]
     rw [Nat.add_mul]; omega
    exact ⟨y, by rw [e3, q4 _ hlt]; exact p1, p2, p3.mono hS hsame hroom (fun _ _ h => h)⟩
   ·rw [if_neg e2] at hi
    obtain ⟨y, p1, p2, p3⟩ := g4 i row j x hi hj
    refine ⟨y, ?_, p2, p3.mono hS hsame hroom (fun _ _ h => h)⟩
    rw [q3 _ (.inr ?_)]
    ·exact p1
    ·rw [hl, ← Nat.add_mul]
     have : (k + ys.length) * size ≤ i * size := Nat.mul_le_mul_right _ (by omega)
     omega
theorem drew_frame (w : World) : w.drew.heap = w.heap ∧ w.drew.os = w.os ∧ w.drew.tape = w.tape ∧ w.drew.output = w.output := ⟨rfl, rfl, rfl, rfl⟩
theorem bdd {size k m : Nat} (h : k ≤ m) : k * size ≤ m * size := Nat.mul_le_mul_right _ h
theorem append_runs (hh : HeapR A C.N w β h)  {t u e ty : TypeId} {size bts : Nat} (ha : AppT C.T t u e size bts) {x y : V} {vx vy : Value} (hx : Rel C.N w (Imm A w β h) β x vx) (hy : Rel C.N w (Imm A w β h) β y vy) {ef : Eff}
    (he : appendV n size bts h x y = some ef) (hn : ef.new ≠ [] → β n = none) (hhn : ef.new ≠ [] → h n = none) : Runs A C w β h n ef (do pure (.value (← Builtin.append_ #[t, u] ty #[vx, vy]))) := by
 simp only [appendV, Option.bind_eq_some_iff] at he
 obtain ⟨⟨ys, ny⟩, hys, he⟩ := he
 obtain ⟨ds, d1, d2, d3, d4, d5⟩ := src_of hh hy hys
 have hfull : ∀ w', (∀ b, (Imm A w β h b ∨ ∃ a, β a = some b) → w'.heap[b]? = w.heap[b]?) → (Builtin.firstCells size ys.length vy).run C.T.P w' = .ok ds.toArray w' := fun w' hw' => by
  have := d5 ys.length w' (Nat.le_refl _) hw'
  rwa [List.take_of_length_le (by omega)] at this
 have hd := drew_frame w
 cases hx with
 | lst _ size' rows cap a c b off zs hc hlc haa hnn hr hyy hrel hz0 =>
  have hself : Rel C.N w (Imm A w β h) β (.lst size' rows cap) (.slice a rows.length c) := .lst _ size' rows cap a c b off zs hc hlc haa hnn hr hyy hrel hz0
  simp only at he
  split at he
  ·rename_i h0
   simp only [Option.some.injEq] at he
   subst he
   have hds : ds = [] := List.eq_nil_of_length_eq_zero (by rw [d1, h0]; simp)
   subst hds
   refine runs_same hh rfl rfl (x := .slice a rows.length c) ?_ hself
   have := run_append_in (w := w) (w2 := w) (ty := ty) ha (base := a) (sLen := rows.length) (sCap := c) (d4 w) (by omega) (hfull w (fun _ _ => rfl)) (by cases a <;> simp [storeCells])
   rw [h0] at this
   exact this
  ·rename_i h0
   cases cap with
   | none => simp at he
   | some cc =>
    simp only at he
    split at he
    ·rename_i hcond
     obtain ⟨k1, k2, k3⟩ := hcond
     simp only [Option.some.injEq] at he
     subst he
     have hcc := hc cc rfl
     subst hcc
     have hrows : rowsOf size h (.lst size' rows (some c)) = some (rows, []) := by simp only [rowsOf, if_pos k2]
     obtain ⟨cs, c1, c2, c3, c4, c5⟩ := src_of hh hself hrows
     have hroom : (rows.length + ys.length) * bts ≤ 140737488355328 := by simpa [roomOk] using k3
     have ho : (Builtin.firstCells size rows.length (.slice a rows.length c)).run C.T.P w.drew = .ok cs.toArray w.drew := by
      have := c5 rows.length w.drew (Nat.le_refl _) (fun _ _ => rfl)
      rwa [List.take_of_length_le (by omega)] at this
     obtain ⟨cap', rest, r1, r2, r3⟩ := run_append_new (w := w) (ty := ty) ha (base := a) (sLen := rows.length) (sCap := c) (d4 w) k1 ho (hfull w.drew (fun _ _ => rfl)) hroom
     refine runs_new (fz := (0, 0)) hh (hn (by simp)) (hhn (by simp)) rfl rfl r3 rfl rfl rfl rfl (by simp) (grid_append c2 c1 d2) (fun β' S hb => ?_)
     refine .ref β' n size 0 _ none w.heap.size _ cap' hb (fun k hk => by cases hk) r1 (.inr (by simp)) (fun _ => ⟨_, e, (0, 0), by rw [alloc_heap]; simp [hd.1]; rfl, ?_, by simp⟩) (by simp)
     simp [c1, d1, r2, ← Nat.add_mul]
     exact bdd (by omega)
    ·cases he
 | ref _ ab size' off len cap b xa c hb hc hlc hxa hm hnn =>
  simp only at he
  cases hk : h ab with
  | none => rw [hk] at he; cases he
  | some kk =>
   cases kk with
   | loop => rw [hk] at he; cases he
   | stop => rw [hk] at he; cases he
   | map => rw [hk] at he; cases he
   | iter => rw [hk] at he; cases he
   | siter => rw [hk] at he; cases he
   | junk => rw [hk] at he; cases he
   | arr size'' rows =>
    simp only [hk] at he
    split at he
    ·rename_i hcond
     obtain ⟨rfl, rfl, hle⟩ := hcond
     obtain ⟨b', h1, h2, hblk⟩ := hh.at' ab _ hk
     rw [hb] at h1; cases h1
     have hself : Rel C.N w (Imm A w β h) β (.ref ab size'' off len cap) (.slice xa len c) := .ref _ ab size'' off len cap b xa c hb hc hlc hxa hm hnn
     have hrows : rowsOf size'' h (.ref ab size'' off len cap) = some ((rows.drop off).take len, [ab]) := by simp [rowsOf, hk, hle]
     obtain ⟨cs, c1, c2, c3, c4, c5⟩ := src_of hh hself hrows
     have hlen : ((rows.drop off).take len).length = len := by simp; omega
     have ho : (Builtin.firstCells size'' len (.slice xa len c)).run C.T.P w.drew = .ok cs.toArray w.drew := by
      have := c5 len w.drew (by omega) (fun _ _ => rfl)
      rwa [List.take_of_length_le (by rw [c1, hlen]; exact Nat.le_refl _)] at this
     obtain ⟨cells, T, fz, g1, g2, g3, g4⟩ := id hblk
     cases cap with
     | some cc =>
      have hcc := hc cc rfl
      subst hcc
      simp only at he
      split at he
      ·rename_i k1
       split at he
       ·rename_i k2
        simp only [Option.some.injEq] at he
        subst he
        by_cases h0 : c = 0
        ·have e1 : len = 0 := by omega
         have e2 : ys.length = 0 := by omega
         have hds : ds = [] := List.eq_nil_of_length_eq_zero (by rw [d1, e2]; simp)
         have hys0 : ys = [] := List.eq_nil_of_length_eq_zero e2
         subst hds; subst hys0; subst e1; subst h0
         have hrun := run_append_in (w := w) (w2 := w) (ty := ty) ha (base := xa) (sLen := 0) (sCap := 0) (d4 w) (by simp) (hfull w (fun _ _ => rfl)) (by cases xa <;> simp [storeCells])
         refine ⟨_, w, .inl (by rw [Sem.run_bind, hrun]; rfl), effOk_upd (b := b) (k' := .arr size'' (over rows (off + 0) [])) hh hk hb rfl rfl (fun _ _ => rfl) (fun _ _ h => h) rfl rfl rfl rfl (fun S hS => ?_) (fun S hS => ?_)⟩
         ·have : over rows (off + 0) [] = rows := by simp [over]
          rw [this]
          exact hblk.mono rfl hS (fun _ _ => rfl) (fun _ _ h => h) (fun _ _ h => h)
         ·exact .ref _ ab size'' off _ (some 0) b xa 0 hb (fun k hk => by cases hk; rfl) (by simp) (.inl rfl) (fun h => absurd rfl h) hnn
        ·rcases hxa with hxa | hxa
         ·exact absurd hxa h0
         ·subst hxa
          have hin : (off + len) * size'' + ds.length ≤ rows.length * size'' := by rw [d1, ← Nat.add_mul]; exact bdd (by omega)
          have hfit : (off + len) * size'' + ds.length ≤ cells.size := by
           by_cases h0 : (off + len) * size'' + ds.length = 0
           ·omega
           ·have := (g2 ((off + len) * size'' + ds.length - 1) (by omega)).1; omega
          have hst := run_storeCells_held (P := C.T.P) g1 ds hfit (fun q hq _ hq2 => (g2 q (by omega)).2) d3
          have hrun := run_append_in (w := w) (w2 := w.setCells b ((off + len) * size'') ds) (ty := ty) ha (base := some ⟨b, off * size'', none⟩) (sLen := len) (sCap := c) (d4 w) k1 (hfull w (fun _ _ => rfl)) (by
           simp only [Addr.add_mid]
           rw [← Nat.add_mul]; exact hst)
          obtain ⟨r1, r2, r3, r4, r5⟩ := setCells_same b ds ((off + len) * size'') w
          have hrm := setCells_room b ds ((off + len) * size'') w g1 hfit
          have hsame : ∀ b0, Imm A w β h b0 → (w.setCells b ((off + len) * size'') ds).heap[b0]? = w.heap[b0]? := fun b0 hb0 => r1 b0 (fun e => by subst e; exact hb0.free ⟨ab, by rw [hk]; simp, hb⟩)
          refine ⟨_, w.setCells b ((off + len) * size'') ds, .inl (by rw [Sem.run_bind, hrun]; rfl), effOk_upd (b := b) (k' := .arr size'' (over rows (off + len) ys)) hh hk hb rfl rfl r1 hrm r2 r3 r4 r5 (fun S hS => ?_) (fun S hS => ?_)⟩
          ·exact blk_over hblk d1 d2 (by omega) rfl hS hsame hrm
          ·exact .ref _ ab size'' off _ (some c) b _ c hb (fun k hk => by cases hk; rfl) k1 (.inr rfl) (fun h => hrm _ _ (hm h)) (by simp)
       ·cases he
      ·rename_i k1
       split at he
       ·rename_i k3
        simp only [Option.some.injEq] at he
        subst he
        have hroom : (len + ys.length) * bts ≤ 140737488355328 := by simpa [roomOk] using k3
        obtain ⟨cap', rest, r1, r2, r3⟩ := run_append_new (w := w) (ty := ty) ha (base := xa) (sLen := len) (sCap := c) (d4 w) (by omega) ho (hfull w.drew (fun _ _ => rfl)) hroom
        refine runs_new (fz := (0, 0)) hh (hn (by simp)) (hhn (by simp)) rfl rfl r3 rfl rfl rfl rfl (by simp) (grid_append c2 c1 d2) (fun β' S hb => ?_)
        refine .ref β' n size'' 0 _ none w.heap.size _ cap' hb (fun k hk => by cases hk) r1 (.inr (by simp)) (fun _ => ⟨_, e, (0, 0), by rw [alloc_heap]; simp [hd.1]; rfl, ?_, by simp⟩) (by simp)
        rw [hlen] at c1
        simp [c1, d1, r2, ← Nat.add_mul]
        exact bdd (by omega)
       ·cases he
     | none =>
      simp only at he
      split at he
      ·rename_i k1
       obtain ⟨rfl, hlr, k3⟩ := k1
       simp only [Option.some.injEq] at he
       subst he
       have hall : (rows.drop 0).take len = rows := by rw [List.drop_zero, hlr, List.take_length]
       rw [hall] at c1 c2 c4 c5 hlen
       have hroom : (len + ys.length) * bts ≤ 140737488355328 := by simpa [roomOk] using k3
       by_cases h0 : c = 0
       ·have e1 : len = 0 := by omega
        by_cases e2 : ys.length = 0
        ·have hds : ds = [] := List.eq_nil_of_length_eq_zero (by rw [d1, e2]; simp)
         have hys0 : ys = [] := List.eq_nil_of_length_eq_zero e2
         have hr0 : rows = [] := List.eq_nil_of_length_eq_zero (by omega)
         subst hds; subst hys0; subst h0
         have hrun := run_append_in (w := w) (w2 := w) (ty := ty) ha (base := xa) (sLen := len) (sCap := 0) (d4 w) (by simp [e1]) (hfull w (fun _ _ => rfl)) (by cases xa <;> simp [storeCells])
         refine ⟨_, w, .inl (by rw [Sem.run_bind, hrun]; rfl), effOk_move (b := b) (k' := .arr size'' (rows ++ [])) hh hk hb (hn (by simp)) (hhn (by simp)) rfl rfl (fun _ _ _ => rfl) (fun _ _ h => h) (Nat.le_refl _) rfl rfl rfl b (.inl rfl) (fun β' S hβ hbn hS => ?_) (fun β' S hβ hbn hS => ?_)⟩
         ·rw [List.append_nil]
          exact hblk.mono rfl hS (fun _ _ => rfl) (fun _ _ h => h) hβ
         ·exact .ref _ n size'' 0 _ none b xa 0 hbn (fun k hk => by cases hk) (by simp [e1]) (.inl rfl) (fun h => absurd rfl h) hnn
        ·obtain ⟨cap', rest, r1, r2, r3⟩ := run_append_new (w := w) (ty := ty) ha (base := xa) (sLen := len) (sCap := c) (d4 w) (by omega) ho (hfull w.drew (fun _ _ => rfl)) hroom
         have hga := grid_append (rest := rest) c2 c1 d2
         refine ⟨_, w.drew.alloc (.cells (cs ++ ds ++ rest).toArray e), .inl (by rw [Sem.run_bind, r3]; rfl), effOk_move (b := b) (k' := .arr size'' (rows ++ ys)) hh hk hb (hn (by simp)) (hhn (by simp)) rfl rfl (fun c' _ hc' => by rw [alloc_heap, Array.getElem?_push, if_neg (by rw [hd.1]; omega), hd.1]) (fun b0 m0 ⟨q1, q2, q3, q4, q5⟩ => ⟨q1, q2, q3, by rw [alloc_heap, Array.getElem?_push, if_neg (by rw [hd.1]; have := (Array.getElem?_eq_some_iff.1 q4).1; omega), hd.1]; exact q4, q5⟩) (by rw [alloc_heap]; simp [hd.1]) rfl rfl rfl w.heap.size (.inr ⟨rfl, by rw [alloc_heap]; simp [hd.1]⟩) (fun β' S hβ hbn hS => ?_) (fun β' S hβ hbn hS => ?_)⟩
         ·refine (hga.mono hS (fun b0 hb0 => ?_) (fun b0 m0 ⟨q1, q2, q3, q4, q5⟩ => ?_) hβ).blk (T := e) (fz := (0, 0)) ?_ (by simp)
          ·rw [alloc_heap, Array.getElem?_push, if_neg (by rw [hd.1]; have := hb0.lt; omega), hd.1]
          ·exact ⟨q1, q2, q3, by rw [alloc_heap, Array.getElem?_push, if_neg (by rw [hd.1]; have := (Array.getElem?_eq_some_iff.1 q4).1; omega), hd.1]; exact q4, q5⟩
          ·rw [alloc_heap, hd.1]; simp
         ·refine .ref β' n size'' 0 _ none w.heap.size _ cap' hbn (fun k hk => by cases hk) r1 (.inr (by simp)) (fun _ => ⟨_, e, (0, 0), by rw [alloc_heap]; simp [hd.1]; rfl, ?_, by simp⟩) (by simp)
          rw [hlen] at c1
          simp [c1, d1, r2, ← Nat.add_mul]
          exact bdd (by omega)
       ·rcases hxa with hxa | hxa
        ·exact absurd hxa h0
        ·subst hxa
         by_cases hin : len + ys.length ≤ c
         ·obtain ⟨cells2, T2, fz2, m1, m2, m3⟩ := hm h0
          rw [g1] at m1
          cases m1
          have hfit2 : (0 + len) * size'' + ds.length ≤ (0 + c) * size'' := by rw [d1, ← Nat.add_mul]; exact bdd (by omega)
          have hfit : (0 + len) * size'' + ds.length ≤ cells.size := Nat.le_trans hfit2 m2
          have hst := run_storeCells_held (P := C.T.P) g1 ds hfit (fun q hq _ hq2 => m3 q (by omega)) d3
          have hrun := run_append_in (w := w) (w2 := w.setCells b ((0 + len) * size'') ds) (ty := ty) ha (base := some ⟨b, 0 * size'', none⟩) (sLen := len) (sCap := c) (d4 w) hin (hfull w (fun _ _ => rfl)) (by
           simp only [Addr.add_mid]
           rw [← Nat.add_mul]; exact hst)
          obtain ⟨r1, r2, r3, r4, r5⟩ := setCells_same b ds ((0 + len) * size'') w
          have hrm := setCells_room b ds ((0 + len) * size'') w g1 hfit
          have hsame : ∀ b0, Imm A w β h b0 → (w.setCells b ((0 + len) * size'') ds).heap[b0]? = w.heap[b0]? := fun b0 hb0 => r1 b0 (fun e => by subst e; exact hb0.free ⟨ab, by rw [hk]; simp, hb⟩)
          obtain ⟨cells', q1, q2, q3, q4⟩ := setCells_heap b T fz ds ((0 + len) * size'') w cells g1 hfit
          refine ⟨_, w.setCells b ((0 + len) * size'') ds, .inl (by rw [Sem.run_bind, hrun]; rfl), effOk_move (b := b) (k' := .arr size'' (rows ++ ys)) hh hk hb (hn (by simp)) (hhn (by simp)) rfl rfl (fun c' hc' _ => r1 c' hc') hrm (by rw [r2]; exact Nat.le_refl _) r3 r4 r5 b (.inl rfl) (fun β' S hβ hbn hS => ?_) (fun β' S hβ hbn hS => ?_)⟩
          ·refine ⟨cells', T, fz, q1, fun o ho => ?_, fun i row hi => ?_, fun i row j x hi hj => ?_⟩
           ·rw [q2]
            have : o < (0 + c) * size'' := by
             rw [List.length_append, Nat.add_mul] at ho
             rw [d1] at hfit2
             rw [Nat.zero_add, hlr] at hfit2; omega
            exact ⟨Nat.lt_of_lt_of_le this m2, m3 o this⟩
           ·rw [List.getElem?_append] at hi
            split at hi
            ·exact g3 i row hi
            ·exact d2.1 _ row hi
           ·rw [List.getElem?_append] at hi
            split at hi
            ·rename_i hlt
             obtain ⟨y', p1, p2, p3⟩ := g4 i row j x hi hj
             have hj' : j < size'' := by rw [← g3 i row hi]; exact (List.getElem?_eq_some_iff.1 hj).1
             exact ⟨y', by rw [q3 _ (.inl (by rw [Nat.zero_add, hlr]; exact grid_lt hlt hj'))]; exact p1, p2, p3.mono hS hsame hrm hβ⟩
            ·rename_i hge
             obtain ⟨y', p1, p2, p3⟩ := d2.2.2 _ row j x hi hj
             simp only [List.getElem?_toArray] at p1
             have hlt := (List.getElem?_eq_some_iff.1 p1).1
             have e3 : i * size'' + j = (0 + len) * size'' + ((i - rows.length) * size'' + j) := by
              have : i = rows.length + (i - rows.length) := by omega
              conv => lhs; rw [this]
              rw [Nat.add_mul, Nat.zero_add, hlr]; omega
             exact ⟨y', by rw [e3, q4 _ hlt]; exact p1, p2, p3.mono hS hsame hrm hβ⟩
          ·exact .ref _ n size'' 0 _ none b _ c hbn (fun k hk => by cases hk) hin (.inr rfl) (fun h => hrm _ _ (hm h)) (by simp)
         ·obtain ⟨cap', rest, r1, r2, r3⟩ := run_append_new (w := w) (ty := ty) ha (base := some ⟨b, 0 * size'', none⟩) (sLen := len) (sCap := c) (d4 w) (by omega) ho (hfull w.drew (fun _ _ => rfl)) hroom
          have hga := grid_append (rest := rest) c2 c1 d2
          refine ⟨_, w.drew.alloc (.cells (cs ++ ds ++ rest).toArray e), .inl (by rw [Sem.run_bind, r3]; rfl), effOk_move (b := b) (k' := .arr size'' (rows ++ ys)) hh hk hb (hn (by simp)) (hhn (by simp)) rfl rfl (fun c' _ hc' => by rw [alloc_heap, Array.getElem?_push, if_neg (by rw [hd.1]; omega), hd.1]) (fun b0 m0 ⟨q1, q2, q3, q4, q5⟩ => ⟨q1, q2, q3, by rw [alloc_heap, Array.getElem?_push, if_neg (by rw [hd.1]; have := (Array.getElem?_eq_some_iff.1 q4).1; omega), hd.1]; exact q4, q5⟩) (by rw [alloc_heap]; simp [hd.1]) rfl rfl rfl w.heap.size (.inr ⟨rfl, by rw [alloc_heap]; simp [hd.1]⟩) (fun β' S hβ hbn hS => ?_) (fun β' S hβ hbn hS => ?_)⟩
          ·refine (hga.mono hS (fun b0 hb0 => ?_) (fun b0 m0 ⟨q1, q2, q3, q4, q5⟩ => ?_) hβ).blk (T := e) (fz := (0, 0)) ?_ (by simp)
           ·rw [alloc_heap, Array.getElem?_push, if_neg (by rw [hd.1]; have := hb0.lt; omega), hd.1]
           ·exact ⟨q1, q2, q3, by rw [alloc_heap, Array.getElem?_push, if_neg (by rw [hd.1]; have := (Array.getElem?_eq_some_iff.1 q4).1; omega), hd.1]; exact q4, q5⟩
           ·rw [alloc_heap, hd.1]; simp
          ·refine .ref β' n size'' 0 _ none w.heap.size _ cap' hbn (fun k hk => by cases hk) r1 (.inr (by simp)) (fun _ => ⟨_, e, (0, 0), by rw [alloc_heap]; simp [hd.1]; rfl, ?_, by simp⟩) (by simp)
           rw [hlen] at c1
           simp [c1, d1, r2, ← Nat.add_mul]
           exact bdd (by omega)
      ·cases he
    ·cases he
 | _ => simp at he
end
end Go.Proofs.YtigdhgbkgfagiaaGreat
