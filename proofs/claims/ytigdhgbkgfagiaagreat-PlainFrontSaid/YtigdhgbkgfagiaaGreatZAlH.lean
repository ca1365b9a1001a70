/- AL: every operation that the translation takes: what it yields, it yields in the model. -/
import Derived.Test.YtigdhgbkgfagiaaGreatZAlG
import Derived.Lib.ConvBytes
import Derived.Lib.Strings
set_option linter.unusedVariables false
namespace Go.Proofs.YtigdhgbkgfagiaaGreat
open Go.Lib
section
variable {A : Nat → Prop} {C : Ctx} {w : World} {β : Nat → Option Nat} {h : Nat → Option Blk} {n : Nat} {ρ : AOpd → Option V} {a : Act}
theorem runs_val (hh : HeapR A C.N w β h) {e : Eff} {x : Value} (h1 : e.upd = []) (h2 : e.new = []) (hr : Rel C.N w (Imm A w β h) β e.v x) : Runs A C w β h n e (pure (.value x)) :=
 ⟨x, w, .inl rfl, effOk_same hh h1 h2 rfl rfl rfl rfl hr⟩
theorem toList_eq (s : ByteArray) : s.toList = s.data.toList := Lib.toList_data s
theorem str_rel {S : Nat → Prop} (l : List UInt8) : Rel C.N w S β (.str l) (.string ⟨l.toArray⟩) := by
 have := Rel.str (N := C.N) (w := w) (S := S) β ⟨l.toArray⟩
 simpa using this
theorem bin_runs (hh : HeapR A C.N w β h) {op : BinOp} {t : TypeId} {x y : Operand} {vx vy v : V} {px py : Value} (hx : Rel C.N w (Imm A w β h) β vx px) (hy : Rel C.N w (Imm A w β h) β vy py) (hv : binV op vx vy = some v) :
    Runs A C w β h n { v } (do pure (.value (← (do eqGuard op t x y px py; binOp op t px py)))) := by
 cases hx with
 | int _ j p =>
  cases hy with
  | int _ k q =>
   have hg : eqGuard op t x y (.int j p) (.int k q) = pure () := by cases op <;> rfl
   rw [hg]
   simp only [binV] at hv
   have key : ∀ {z : Value}, (binOp op t (.int j p) (.int k q)).run C.T.P w = .ok z w → Rel C.N w (Imm A w β h) β v z → Runs A C w β h n { v } (do pure (.value (← (do pure (); binOp op t (.int j p) (.int k q))))) := fun {z} hz hr =>
    runs_same hh rfl rfl (by simpa using hz) hr
   split at hv
   ·unfold shiftInt at hv
    split at hv
    ·cases hv
    ·rename_i hq
     simp at hv
     subst hv
     exact key (by simp [binOp, Op.shift, hq] <;> rfl) (.int _ _ _)
   ·unfold shiftInt at hv
    split at hv
    ·cases hv
    ·rename_i hq
     simp at hv
     subst hv
     exact key (by simp [binOp, Op.shift, hq] <;> rfl) (.int _ _ _)
   ·rename_i n1 n2
    split at hv
    ·rename_i hjk
     subst hjk
     cases op <;> simp only [binInt, intBitsV, Option.some.injEq] at hv
     case quo =>
      split at hv
      ·cases hv
      ·rename_i hq
       simp only [Option.some.injEq] at hv; subst hv
       exact key (z := .int j (j.wrap (p.tdiv q))) (by simp [binOp, Op.intDiv, hq]) (.int _ _ _)
     case rem =>
      split at hv
      ·cases hv
      ·rename_i hq
       simp only [Option.some.injEq] at hv; subst hv
       exact key (z := .int j (p.tmod q)) (by simp [binOp, Op.intDiv, hq]) (.int _ _ _)
     case add => subst hv; exact key (z := .int j (j.wrap (p + q))) (by simp [binOp, Op.intArith]) (.int _ _ _)
     case sub => subst hv; exact key (z := .int j (j.wrap (p - q))) (by simp [binOp, Op.intArith]) (.int _ _ _)
     case mul => subst hv; exact key (z := .int j (j.wrap (p * q))) (by simp [binOp, Op.intArith]) (.int _ _ _)
     case eql => subst hv; exact key (z := .bool (p == q)) (by simp [binOp, Op.intCmp]) (.bool _ _)
     case neq => subst hv; exact key (z := .bool (p != q)) (by simp [binOp, Op.intCmp]) (.bool _ _)
     case lss => subst hv; exact key (z := .bool (decide (p < q))) (by simp [binOp, Op.intCmp]) (.bool _ _)
     case leq => subst hv; exact key (z := .bool (decide (p ≤ q))) (by simp [binOp, Op.intCmp]) (.bool _ _)
     case gtr => subst hv; exact key (z := .bool (decide (p > q))) (by simp [binOp, Op.intCmp]) (.bool _ _)
     case geq => subst hv; exact key (z := .bool (decide (p ≥ q))) (by simp [binOp, Op.intCmp]) (.bool _ _)
     all_goals first
      | (cases hv; done)
      | (subst hv; refine key (z := .int j _) ?_ (.int _ _ _); simp only [binOp, ne_eq, not_true_eq_false, if_false]; rfl)
    ·cases hv
  | _ => simp [binV] at hv
 | str _ s =>
  cases hy with
  | str _ q =>
   have hg : eqGuard op t x y (.string s) (.string q) = pure () := by cases op <;> rfl
   rw [hg]
   simp only [binV] at hv
   have key : ∀ {z : Value}, (binOp op t (.string s) (.string q)).run C.T.P w = .ok z w → Rel C.N w (Imm A w β h) β v z → Runs A C w β h n { v } (do pure (.value (← (do pure (); binOp op t (.string s) (.string q))))) := fun {z} hz hr =>
    runs_same hh rfl rfl (by simpa using hz) hr
   cases op <;> simp only [binStr] at hv
   case add =>
    split at hv
    ·rename_i hl
     simp only [Option.some.injEq] at hv
     subst hv
     refine key (z := .string (s ++ q)) ?_ ?_
     ·have : ¬ (9223372036854775807 < ((s.size : Int) + (q.size : Int))) := by
        simp [strBig] at hl; omega
      simp [binOp, Op.stringOp, this]
     ·have := Rel.str (N := C.N) (w := w) (S := Imm A w β h) β (s ++ q)
      simpa using this
    ·cases hv
   all_goals first
    | (cases hv; done)
    | (simp only [Option.some.injEq] at hv; subst hv; refine key (z := .bool _) ?_ (.bool _ _); simp [binOp, Op.stringOp, toList_eq])
  | _ => simp [binV] at hv
 | _ => simp [binV] at hv
theorem un_runs (hh : HeapR A C.N w β h) {op : UnOp} {vx v : V} {px : Value} (hx : Rel C.N w (Imm A w β h) β vx px) (hv : unV op vx = some v) : Runs A C w β h n { v } (do pure (.value (← Op.unary op px))) := by
 cases hx with
 | int _ k m =>
  simp only [unV] at hv
  split at hv
  ·simp only [Option.some.injEq] at hv; subst hv
   exact runs_same hh rfl rfl (x := .int k (k.wrap (0 - m))) (by simp [Op.unary, Op.intArith]) (.int _ _ _)
  ·simp only [intBitsV, Option.some.injEq] at hv; subst hv
   exact runs_same hh rfl rfl (x := .int k _) (by simp only [Op.unary]; rfl) (.int _ _ _)
  ·cases hv
 | bool _ b =>
  simp only [unV] at hv
  split at hv
  ·simp only [Option.some.injEq] at hv; subst hv
   exact runs_same hh rfl rfl (x := .bool (!b)) (by simp [Op.unary]) (.bool _ _)
  ·cases hv
 | _ => simp [unV] at hv
theorem bytes_runs (hh : HeapR A C.N w β h) (hn : β n = none) (hhn : h n = none) {src dst e : TypeId} (hs : C.T.P.underlying src = some .string) (hd : C.T.P.underlying dst = some (.slice e)) (he : C.T.P.underlying e = some (.int .u8)) (s : ByteArray) :
    Runs A C w β h n { v := .ref n 1 0 s.data.toList.length none, new := [.arr 1 (s.data.toList.map fun b => [.int .u8 b.toNat])] } (do pure (.value (← convert src dst (.string s)))) := by
 have hsrc := src_of (C := C) hh (size := 1) (.str β s) (rows := s.data.toList.map fun b => [V.int .u8 b.toNat]) (nd := []) (by simp [rowsOf])
 obtain ⟨ds, d1, d2, d3, d4, d5⟩ := hsrc
 have hf := d5 s.data.toList.length w (by simp) (fun _ _ => rfl)
 have hfc : (Builtin.firstCells 1 s.data.toList.length (.string s)).run C.T.P w = .ok (s.data.map fun b => Value.int .u8 b.toNat) w := by
  simp [Builtin.firstCells, ByteArray.extract, ByteArray.copySlice]
 rw [hfc] at hf
 have hds : (s.data.map fun b => Value.int .u8 b.toNat) = ds.toArray := by
  injection hf with e1 _
  rw [e1, List.take_of_length_le (by rw [d1]; simp)]
 have hh1 : (bytesWorld w e s).heap = w.heap.push (.cells (bytesCells w e s) e ((bytesCells w e s).size, (bytesCells w e s).size + 1)) := by
  apply Array.ext_getElem?
  intro j
  rw [Array.getElem?_push]
  by_cases h1 : j = w.heap.size
  ·subst h1; rw [if_pos rfl]; exact bytesWorld_at_new w e s
  ·rw [if_neg h1]
   by_cases h2 : j < w.heap.size
   ·exact bytesWorld_at_old w e s j h2
   ·rw [Array.getElem?_eq_none (by rw [bytesWorld_size]; omega), Array.getElem?_eq_none (by omega)]
 have hc : (bytesCells w e s) = (ds ++ [] ++ List.replicate (grownCap w s.size 0 e - s.size) (Value.int .u8 0)).toArray := by
  unfold bytesCells
  rw [hds]; simp
 have hge := grownCap_ge w s.size 0 e
 have hg := grid_append (rest := List.replicate (grownCap w s.size 0 e - s.size) (Value.int .u8 0)) (ys := []) (ds := []) d2 d1 ⟨fun i row hi => by simp at hi, by simp, fun i row j x hi => by simp at hi⟩
 rw [List.append_nil, ← hc] at hg
 refine runs_new (fz := ((bytesCells w e s).size, (bytesCells w e s).size + 1)) hh hn hhn rfl rfl (Lib.run_convert_string_bytes w src dst e s hs hd he) hh1 rfl rfl rfl (fun o ho => by simp; omega) hg (fun β' S hb => ?_)
 have hsl : s.data.toList.length = s.size := by simp
 have hm : (0 + grownCap w s.size 0 e) * 1 ≤ (bytesCells w e s).size := by simp [bytesCells]; omega
 have := Rel.ref (N := C.N) (w := bytesWorld w e s) (S := S) β' n 1 0 s.data.toList.length none w.heap.size (some ⟨w.heap.size, 0, none⟩) (grownCap w s.size 0 e) hb (fun k hk => by cases hk) (by rw [hsl]; exact hge) (.inr (by simp)) (fun _ => ⟨_, e, _, bytesWorld_at_new w e s, hm, fun k hk => by simp; omega⟩) (by simp)
 rw [hsl] at this; simpa using this
theorem fold_push : ∀ (ns : List Int) (r : ByteArray), (ns.foldl (fun r n => r.push (UInt8.ofNat n.toNat)) r).data.toList = r.data.toList ++ ns.map (fun n => UInt8.ofNat n.toNat)
 | [], r => by simp
 | m :: ns, r => by rw [List.foldl_cons, fold_push ns]; simp [ByteArray.push]
theorem unRows_spec : ∀ {rows : List (List V)} {s : List UInt8}, rows.foldr unRow (some []) = some s → ∃ ns : List Int, rows = ns.map (fun b => [V.int .u8 b]) ∧ s = ns.map (fun b => UInt8.ofNat b.toNat)
 | [], s, h => by simp at h; exact ⟨[], rfl, by simp [h]⟩
 | r :: rows, s, h => by
  rw [List.foldr_cons] at h
  unfold unRow at h
  rw [Option.bind_eq_some_iff] at h
  obtain ⟨s', h1, h2⟩ := h
  obtain ⟨ns, e1, e2⟩ := unRows_spec (rows := rows) h1
  split at h2
  ·rename_i b
   simp only [Option.some.injEq] at h2
   exact ⟨b :: ns, by simp [e1], by simp [← h2, e2]⟩
  ·cases h2
theorem string_runs (hh : HeapR A C.N w β h) {src dst e : TypeId} (hs : C.T.P.underlying src = some (.slice e)) (hd : C.T.P.underlying dst = some .string) (he : C.T.P.underlying e = some (.int .u8)) {x : V} {vx : Value} (hx : Rel C.N w (Imm A w β h) β x vx) (hsl : ∃ a l c, vx = .slice a l c) {rows : List (List V)} {nd : List Nat} {s : List UInt8}
    (hr : rowsOf 1 h x = some (rows, nd)) (hf : rows.foldr unRow (some []) = some s) : Runs A C w β h n { v := .str s, need := nd } (do pure (.value (← convert src dst vx))) := by
 obtain ⟨ds, d1, d2, d3, d4, d5⟩ := src_of hh hx hr
 obtain ⟨ns, e1, e2⟩ := unRows_spec hf
 obtain ⟨xa, l, c, rfl⟩ := hsl
 have hl : l = rows.length := by have := d4 w; simp [Builtin.lenOf] at this; exact this
 subst hl
 have hds : ds = ns.map (Value.int .u8) := by
  apply List.ext_getElem?
  intro i
  by_cases hi : i < ns.length
  ·obtain ⟨y, q1, q2, q3⟩ := d2.2.2 i [V.int .u8 ns[i]] 0 (V.int .u8 ns[i]) (by rw [e1]; simp [hi]) rfl
   cases q3
   simp at q1
   rw [q1]; simp [hi]
  ·rw [List.getElem?_eq_none (by rw [d1, e1]; simp; omega), List.getElem?_eq_none (by simp; omega)]
 have hf1 := d5 rows.length w (Nat.le_refl _) (fun _ _ => rfl)
 rw [List.take_of_length_le (by omega)] at hf1
 have hres : Rel C.N w (Imm A w β h) β (.str s) (.string ⟨s.toArray⟩) := str_rel s
 cases xa with
 | none =>
  simp [Builtin.firstCells] at hf1
  rw [hf1] at hds
  have : ns = [] := by cases ns with
   | nil => rfl
   | cons a b => simp at hds
  subst this
  simp at e2
  subst e2
  refine runs_same hh rfl rfl (x := .string .empty) ?_ ?_
  ·rw [run_convert_bytes_string w src dst e none rows.length c hs he hd]; rfl
  ·have := Rel.str (N := C.N) (w := w) (S := Imm A w β h) β ByteArray.empty
   simpa using this
 | some ad =>
  have hlc : (loadCells ad rows.length).run C.T.P w = .ok (ns.map (Value.int .u8)).toArray w := by
   have := hf1
   simp only [Builtin.firstCells, Nat.mul_one] at this
   rw [this, hds]
  refine runs_same hh rfl rfl (x := .string ⟨s.toArray⟩) ?_ hres
  rw [run_convert_bytes_string w src dst e (some ad) rows.length c hs he hd, run_bytesToString w ad rows.length c ns hlc]
  congr 2
  have := fold_push ns ByteArray.empty
  have h2 : (ns.foldl (fun r n => r.push (UInt8.ofNat n.toNat)) ByteArray.empty).data.toList = s := by rw [this, e2]; simp
  cases hq : (ns.foldl (fun r n => r.push (UInt8.ofNat n.toNat)) ByteArray.empty) with
  | mk d => rw [hq] at h2; simp at h2; rw [← h2]
theorem evals_rel {S : Nat → Prop} (ho : OpdOk C w S β ρ a) : ∀ {xs : List Operand} {ys : List AOpd} {vs : List V}, C.T.opds xs = some ys → evals ρ ys = some vs → vs.length = xs.length ∧ ∀ (i : Nat) (v : V) (y : Value), vs[i]? = some v → (xs.map a.eval)[i]? = some y → Rel C.N w S β v y
 | [], ys, vs, h1, h2 => by
  simp [Tr.opds] at h1; subst h1
  simp [evals] at h2; subst h2
  exact ⟨rfl, fun i v y h => by simp at h⟩
 | x :: xs, ys, vs, h1, h2 => by
  simp only [Tr.opds, Option.bind_eq_some_iff] at h1
  obtain ⟨y, hy, l, hl, h1⟩ := h1
  simp only [Option.some.injEq] at h1
  subst h1
  simp only [evals, Option.bind_eq_some_iff] at h2
  obtain ⟨v, hv, vs', hvs, h2⟩ := h2
  simp only [Option.some.injEq] at h2
  subst h2
  obtain ⟨g1, g2⟩ := evals_rel ho hl hvs
  refine ⟨by simp [g1], fun i v' y' h3 h4 => ?_⟩
  cases i with
  | zero => simp at h3 h4; subst h3; subst h4; exact ho x y v hy hv
  | succ i => simp at h3 h4; exact g2 i v' y' h3 (by simpa using h4)
theorem fold_ints {P : Program} (pick : Int → Int → Int) (f : Value → Value → Sem Value) (hf : ∀ (k : IntKind) (x y : Int), f (.int k x) (.int k y) = pure (.int k (pick x y))) {N : Nums} {S : Nat → Prop} : ∀ {vs : List V} {xs : List Value} {v v' : V} {x : Value}, vs.length = xs.length → (∀ (i : Nat) (v : V) (y : Value), vs[i]? = some v → xs[i]? = some y → Rel N w S β v y) → Rel N w S β v x →
    foldInts pick v vs = some v' → ∃ x', (xs.foldlM f x).run P w = .ok x' w ∧ Rel N w S β v' x'
 | [], [], v, v', x, _, _, hx, h => by simp [foldInts] at h; subst h; exact ⟨x, rfl, hx⟩
 | [], _ :: _, _, _, _, hl, _, _, _ => by simp at hl
 | _ :: _, [], _, _, _, hl, _, _, _ => by simp at hl
 | u :: vs, y :: xs, v, v', x, hl, hr, hx, h => by
  have hy := hr 0 u y rfl rfl
  cases hx with
  | int _ k p =>
   cases hy with
   | int _ k' q =>
    simp only [foldInts] at h
    split at h
    ·rename_i hk
     subst hk
     obtain ⟨x', h1, h2⟩ := fold_ints (P := P) pick f hf (vs := vs) (xs := xs) (x := .int k (pick p q)) (by simpa using hl) (fun i v y hv hy => hr (i + 1) v y hv hy) (.int _ _ _) h
     refine ⟨x', ?_, h2⟩
     rw [List.foldlM_cons, hf, pure_bind]; exact h1
    ·cases h
   | _ => simp [foldInts] at h
  | _ => simp [foldInts] at h
end
end Go.Proofs.YtigdhgbkgfagiaaGreat
