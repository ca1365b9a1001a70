/- AL: memory seen whole: a value with all that it points to, as a value that stands by itself. · AL: slices that may be nil; values that own what they point to. · AL: what comes in from outside, of whatever type, as values of AL. · Outcomes: as values, and owned in memory. · AL: a block of rows that the library sorts: how it lies before and behind. · AL: the kit's slices.SortFunc at pairs of numbers, told as what a function does to memory. -/
import Derived.Test.YtncdaicaljpgfaaGreatM1
import Derived.Lib.SmallJoins
import Derived.Deep.Grids
import Derived.ChangeSlices
import Derived.Test.YtncdaicaljpgfaaGreatAlV
import Derived.Shelf.SlSortCmp.WholeK
set_option linter.unusedVariables false
namespace Go.Proofs.YtncdaicaljpgfaaGreat
/-- v' is v with all that it points to. -/
def Deep (h : Nat → Option Blk) : Nat → V → V → Prop
  | 0, _, _ => False
  | n + 1, v, v' =>
    match v with
    | .agg cs => ∃ ds : List V, v' = .agg ds ∧ ds.length = cs.length ∧ ∀ (i : Nat) (c d : V), cs[i]? = some c → ds[i]? = some d → Deep h n c d
    | .ref a size off len cap => ∃ (rows rs : List (List V)), h a = some (.arr size rows) ∧ 0 < size ∧ off + len ≤ rows.length ∧ rs.length = len ∧
        (∀ (i : Nat) (r r' : List V), rows[off + i]? = some r → rs[i]? = some r' → r'.length = r.length ∧ ∀ (j : Nat) (c d : V), r[j]? = some c → r'[j]? = some d → Deep h n c d) ∧ v' = .lst (if len = 0 then 1000003 else size) rs none
    | .tup cs => ∃ ds : List V, v' = .tup ds ∧ ds.length = cs.length ∧ ∀ (i : Nat) (c d : V), cs[i]? = some c → ds[i]? = some d → Deep h n c d
    | .fn .. | .ptr .. | .iface .. | .yld .. | .mapp .. => False
    | .lst s rows cap => v' = .lst s rows cap ∨ ∃ rs : List (List V), rs.length = rows.length ∧ (∀ (i : Nat) (r r' : List V), rows[i]? = some r → rs[i]? = some r' → r'.length = r.length ∧ ∀ (j : Nat) (c d : V), r[j]? = some c → r'[j]? = some d → Deep h n c d) ∧ v' = .lst s rs none
    | _ => v' = v
theorem imm_less {A : Nat → Prop} {w : World} {β : Nat → Option Nat} {h : Nat → Option Blk} (b : Nat) (x : Imm A w β h b) : Imm A w (fun _ => none) (fun _ => none) b := ⟨x.lt, fun ⟨a, ha, _⟩ => ha rfl, x.al, x.arr⟩
theorem rel_deep {A : Nat → Prop} {N : Nums} {w : World} {β : Nat → Option Nat} {h : Nat → Option Blk} (hh : HeapR A N w β h) (hA : ∀ b, Live β h b → A b) : ∀ (n : Nat) (v v' : V) (x : Value) {β0 : Nat → Option Nat}, (∀ a b, β0 a = some b → β a = some b) → Deep h n v v' → Rel N w (Imm A w β h) β0 v x → Rel N w (Imm A w (fun _ => none) (fun _ => none)) (fun _ => none) v' x
  | 0, _, _, _, _, _, hd, _ => hd.elim
  | n + 1, v, v', x, β0, h0, hd, hr => by
    cases v with
    | agg cs =>
      obtain ⟨ds, rfl, hl, hds⟩ := hd
      cases hr with
      | agg _ _ ys h00 h1 h2 =>
        refine .agg _ ds ys (by omega) h1 (fun i d y hdi hyi => ?_)
        have hlt : i < cs.length := by have := (List.getElem?_eq_some_iff.1 hdi).1; omega
        have hc : cs[i]? = some cs[i] := List.getElem?_eq_getElem hlt
        exact rel_deep hh hA n _ _ _ h0 (hds i _ _ hc hdi) (h2 i _ _ hc hyi)
    | ref a size off len cap =>
      obtain ⟨rows, rs, h1, h2, h3, rfl, h5, rfl⟩ := hd
      cases hr with
      | ref _ _ _ _ _ _ b x c hb hc hlc hx hm hnn =>
        obtain ⟨b', q1, q2, cells, T, fz, q3, q4, q5, q6⟩ := hh.at' a _ h1
        rw [h0 _ _ hb] at q1; cases q1
        have key : ∀ (i : Nat) (r' : List V), rs[i]? = some r' → ∃ r, rows[off + i]? = some r ∧ r'.length = r.length ∧ r'.length = size ∧ ¬ rs.length = 0 ∧ ∀ (j : Nat) (c d : V), r[j]? = some c → r'[j]? = some d → Deep h n c d := fun i r' hi => by
          have hlt := (List.getElem?_eq_some_iff.1 hi).1
          have hg : rows[off + i]? = some (rows[off + i]'(by omega)) := List.getElem?_eq_getElem _
          obtain ⟨g1, g2⟩ := h5 i _ _ hg hi
          exact ⟨_, hg, g1, by rw [g1]; exact q5 _ _ hg, by omega, g2⟩
        have cell : ∀ (i : Nat) (r' : List V) (j : Nat) (d : V), rs[i]? = some r' → r'[j]? = some d → ∃ y, cells[(off + i) * size + j]? = some y ∧ y.oneCell' = true ∧ Rel N w (Imm A w (fun _ => none) (fun _ => none)) (fun _ => none) d y := fun i r' j d hi hj => by
          obtain ⟨r, g1, g2, _, _, g3⟩ := key i r' hi
          have hlt := (List.getElem?_eq_some_iff.1 hj).1
          have hg : r[j]? = some (r[j]'(by omega)) := List.getElem?_eq_getElem _
          obtain ⟨y, k1, k2, k3⟩ := q6 _ _ _ _ g1 hg
          exact ⟨y, k1, k2, rel_deep hh hA n _ _ _ (fun _ _ h => h) (g3 j _ _ hg hj) k3⟩
        refine Rel.lst (fun _ => none) (if rs.length = 0 then 1000003 else size) rs none x c b (off * size) (fun i j => (cells[(off + i) * size + j]?).getD undef) (fun k hk => by cases hk) hlc (fun h9 => ⟨?_, q2, fun ⟨a', ha', _⟩ => ha' rfl, hA b ⟨a, by rw [h1]; simp, h0 _ _ hb⟩, cells, T, fz, q3⟩) (fun h => absurd h hnn)
          (fun i r' hi => ?_) (fun i r' j d hi hj => ?_) (fun i r' j d hi hj => ?_) ⟨fun e1 e2 => ?_, fun _ _ => hnn⟩
        · rcases hx with h | h
          · omega
          · exact h
        · obtain ⟨_, _, _, g3, g4, _⟩ := key i r' hi
          rw [if_neg g4]; exact g3
        · obtain ⟨_, _, _, _, g4, _⟩ := key i r' hi
          obtain ⟨y, k1, k2, _⟩ := cell i r' j d hi hj
          rw [if_neg g4, show off * size + i * size + j = (off + i) * size + j by rw [Nat.add_mul]]
          refine ⟨?_, by rw [k1]; exact k2⟩
          unfold World.cell?
          simp only [q3]
          rw [k1]; rfl
        · obtain ⟨y, k1, _, k3⟩ := cell i r' j d hi hj
          rw [k1]; exact k3
        · rw [if_pos e2] at e1; cases e1
    | fn f a b => exact hd.elim
    | ptr => exact hd.elim
    | iface => exact hd.elim
    | tup cs =>
      obtain ⟨ds, rfl, hl, hds⟩ := hd
      cases hr with
      | tup _ _ ys h00 h2 =>
        refine .tup _ ds ys (by omega) (fun i d y hdi hyi => ?_)
        have hlt : i < cs.length := by have := (List.getElem?_eq_some_iff.1 hdi).1; omega
        have hc : cs[i]? = some cs[i] := List.getElem?_eq_getElem hlt
        exact rel_deep hh hA n _ _ _ h0 (hds i _ _ hc hdi) (h2 i _ _ hc hyi)
    | yld => exact hd.elim
    | mapp => exact hd.elim
    | int k z => obtain rfl : v' = _ := hd; cases hr; exact .int _ _ _
    | bool b => obtain rfl : v' = _ := hd; cases hr; exact .bool _ _
    | str s => obtain rfl : v' = _ := hd; cases hr; exact .str _ _
    | nilp => obtain rfl : v' = _ := hd; cases hr; exact .nilp _
    | nilf => obtain rfl : v' = _ := hd; cases hr; exact .nilf _
    | nili => obtain rfl : v' = _ := hd; cases hr; exact .nili _
    | nilm => obtain rfl : v' = _ := hd; cases hr; exact .nilm _
    | bot => obtain rfl : v' = _ := hd; cases hr with | bot _ y hy => exact .bot _ _ hy
    | lst s rows cap =>
      cases hr with
      | lst _ _ _ _ a c b off ys hc hlc ha hn hr hy h1 hz =>
        have hd' : v' = .lst s rows cap ∨ ∃ rs : List (List V), rs.length = rows.length ∧ (∀ (i : Nat) (r r' : List V), rows[i]? = some r → rs[i]? = some r' → r'.length = r.length ∧ ∀ (j : Nat) (c d : V), r[j]? = some c → r'[j]? = some d → Deep h n c d) ∧ v' = .lst s rs none := hd
        rcases hd' with rfl | ⟨rs, e1, e2, rfl⟩
        · exact .lst _ s rows cap a c b off ys hc hlc (fun h0 => ⟨(ha h0).1, imm_less b (ha h0).2⟩) hn hr hy (fun i row j x h2 h3 => (h1 i row j x h2 h3).mono imm_less (fun _ _ => rfl) (fun _ _ h => h) (fun _ _ h => h)) hz
        · have key : ∀ (i : Nat) (r' : List V), rs[i]? = some r' → ∃ r, rows[i]? = some r ∧ r'.length = r.length ∧ ∀ (j : Nat) (c d : V), r[j]? = some c → r'[j]? = some d → Deep h n c d := fun i r' hi => by
            have hlt := (List.getElem?_eq_some_iff.1 hi).1
            have hg : rows[i]? = some (rows[i]'(by omega)) := List.getElem?_eq_getElem _
            exact ⟨_, hg, e2 i _ _ hg hi⟩
          have := Rel.lst (N := N) (w := w) (S := Imm A w (fun _ => none) (fun _ => none)) (fun _ => none) s rs none a c b off ys (fun k h => by cases h) (by omega) (fun h0 => ⟨(ha (by omega)).1, imm_less b (ha (by omega)).2⟩) hn
            (fun i row hi => by obtain ⟨r, g1, g2, _⟩ := key i row hi; rw [g2]; exact hr i r g1)
            (fun i row j x hi hj => by
              obtain ⟨r, g1, g2, _⟩ := key i row hi
              have hlt := (List.getElem?_eq_some_iff.1 hj).1
              exact hy i r j _ g1 (List.getElem?_eq_getElem (by omega)))
            (fun i row j x hi hj => by
              obtain ⟨r, g1, g2, g3⟩ := key i row hi
              have hlt := (List.getElem?_eq_some_iff.1 hj).1
              have hg : r[j]? = some (r[j]'(by omega)) := List.getElem?_eq_getElem _
              exact rel_deep hh hA n _ _ _ (fun _ _ h => by cases h) (g3 j _ _ hg hj) (h1 i r j _ g1 hg)) ⟨fun h2 h3 => hz.1 h2 (by omega), fun h2 h3 => hz.2 h2 (by omega)⟩
          rw [e1] at this
          exact this
    | iptr s rows i o =>
      obtain rfl : v' = _ := hd
      cases hr with
      | iptr _ _ _ _ _ b off ys hS hr hy h1 =>
        exact .iptr _ s rows i o b off ys (imm_less b hS) hr hy (fun i row j x h2 h3 => (h1 i row j x h2 h3).mono imm_less (fun _ _ => rfl) (fun _ _ h => h) (fun _ _ h => h))
/-- Values, each seen whole. -/
def Deeps (h : Nat → Option Blk) : List V → List V → Prop
  | [], [] => True
  | v :: vs, v' :: vs' => (∃ n, Deep h n v v') ∧ Deeps h vs vs'
  | _, _ => False
theorem Deeps.at {h : Nat → Option Blk} : ∀ {vs vs' : List V}, Deeps h vs vs' → vs.length = vs'.length ∧ ∀ (i : Nat) (v v' : V), vs[i]? = some v → vs'[i]? = some v' → ∃ n, Deep h n v v'
  | [], [], _ => ⟨rfl, fun i v v' h => by simp at h⟩
  | v :: vs, v' :: vs', ⟨h1, h2⟩ => by
    obtain ⟨h3, h4⟩ := h2.at
    refine ⟨by simp [h3], fun i u u' hu hu' => ?_⟩
    cases i with
    | zero => simp at hu hu'; subst hu hu'; exact h1
    | succ i => exact h4 i u u' (by simpa using hu) (by simpa using hu')
  | [], _ :: _, h => h.elim
  | _ :: _, [], h => h.elim
/-- Numbers, texts, Booleans; lists of them. -/
def V.leaf : V → Bool
  | .int .. | .bool _ | .str _ | .nilp | .nilf | .nili | .nilm => true
  | _ => false
def V.plain : V → Bool
  | .tup vs | .agg vs => vs.all V.leaf
  | v => v.leaf
theorem rel_leaf {N : Nums} {w : World} {S S' : Nat → Prop} {β β' : Nat → Option Nat} {v : V} {x : Value} (h : Rel N w S β v x) (hv : v.leaf = true) : Rel N w S' β' v x := by
  cases h with
  | int => exact .int _ _ _
  | bool => exact .bool _ _
  | str => exact .str _ _
  | nilp => exact .nilp _
  | nilf => exact .nilf _
  | nili => exact .nili _
  | nilm => exact .nilm _
  | _ => simp [V.leaf] at hv
theorem rel_plain {N : Nums} {w : World} {S S' : Nat → Prop} {β β' : Nat → Option Nat} {v : V} {x : Value} (h : Rel N w S β v x) (hv : v.plain = true) : Rel N w S' β' v x := by
  have all : ∀ {vs : List V} {i : Nat} {c : V}, vs.all V.leaf = true → vs[i]? = some c → c.leaf = true := fun h hc => List.all_eq_true.1 h _ (List.mem_of_getElem? hc)
  cases v with
  | agg cs => cases h with | agg _ _ ys h0 h1 h2 => exact .agg _ cs ys h0 h1 (fun i c y hc hy => rel_leaf (h2 i c y hc hy) (all hv hc))
  | tup cs => cases h with | tup _ _ ys h0 h2 => exact .tup _ cs ys h0 (fun i c y hc hy => rel_leaf (h2 i c y hc hy) (all hv hc))
  | _ => exact rel_leaf h hv
/-- A function that yields numbers, called at values in memory. -/
theorem VFn.deep {L : Lib} {k : Nat} {vs vs' : List V} {r : V} (hf : VFn L k vs' r) (hp : r.plain = true) {H : Heap} (hd : Deeps H.get vs vs') : AFn L (.fn k) vs H (fun r' H' => r' = r ∧ H' = H) := by
  intro C hC A w β xs hA hd0 hh hg ha fid hfid
  obtain ⟨h1, h2⟩ := hd.at
  obtain ⟨hn, har⟩ := ha
  have hA' : ∀ b, Live β H.get b → A b := fun b hb => hA b (.inr hb)
  have hlv : ∀ (g : Nat → Option Nat) (b : Nat), ¬ Live g (Heap.get []) b := fun g b ⟨a, h, _⟩ => by simp [Heap.get] at h
  have hnone : Heap.get ([] : Heap) = fun _ => none := by funext a; simp [Heap.get]
  have hrun := hf.2.2 C hC A w (fun _ => none) xs (fun b hb => hb.elim (fun h => hA b (.inl h)) (fun h => absurd h (hlv _ b))) (fun _ _ => rfl) ⟨fun a k h => by simp [Heap.get] at h, fun a a' b h => absurd (by simp [Heap.get]) h⟩
    (fun g k v e1 e2 => by rw [hnone]; exact (hg g k v e1 e2).mono imm_less (fun _ _ => rfl) (fun _ _ h => h) (fun _ _ h => h))
    ⟨by omega, fun i v' x hv' hx => by
      rw [hnone]
      have hlt : i < vs.length := by have := (List.getElem?_eq_some_iff.1 hv').1; omega
      have hv : vs[i]? = some vs[i] := List.getElem?_eq_getElem hlt
      obtain ⟨n, hdn⟩ := h2 i _ _ hv hv'
      exact rel_deep hh hA' n _ _ _ (fun _ _ h => h) hdn (har i _ _ hv hx)⟩ fid hfid
  refine Calls.mono hrun ?_
  rintro e w' ⟨v, r', H', β', rfl, ⟨rfl, rfl⟩, _, _, _, _, hrel, _, hfr⟩
  have hsame : ∀ b, b < w.heap.size → w'.heap[b]? = w.heap[b]? := fun b hb => hfr.block b hb (hlv _ b)
  have hmv := hh.move (w' := w') (fun _ => False) (fun _ h => h.elim) (fun b hb _ => hsame b hb) hfr.size
  refine ⟨v, _, H, β, rfl, ⟨rfl, rfl⟩, Nat.le_refl _, hd0, fun _ _ => rfl, hmv.2.2, ?_, fun b hb => .inr hb, ⟨hfr.os, hfr.tape, hfr.output, hfr.size, fun b hb _ => hsame b hb, hfr.room⟩⟩
  exact rel_plain hrel hp
/-- What a function made, seen whole. -/
theorem AFn.whole {L : Lib} {k : Nat} {vs : List V} {P : V → Prop} (h : AFn L (.fn k) vs [] (fun r H' => ∃ n r', Deep H'.get n r r' ∧ P r')) : AFn L (.fn k) vs [] (fun r h => P r ∧ h = []) := by
  intro C hC A w β xs hA hd0 hh hg ha fid hfid
  refine Calls.mono (h C hC A w β xs hA hd0 hh hg ha fid hfid) ?_
  have hlv : ∀ (g : Nat → Option Nat) (b : Nat), ¬ Live g (Heap.get []) b := fun g b ⟨a, h, _⟩ => by simp [Heap.get] at h
  have hnone : Heap.get ([] : Heap) = fun _ => none := by funext a; simp [Heap.get]
  rintro e w' ⟨v, r, H', β', rfl, ⟨n, r', hd, hp⟩, h1, h2, h3, h4, hrel, h5, hfr⟩
  have hA' : ∀ b, Live β' H'.get b → A b := fun b hb => (h5 b hb).elim (fun h => hA b (.inl h)) (fun h => absurd h (hlv _ b))
  refine ⟨v, r', [], fun _ => none, rfl, ⟨hp, rfl⟩, Nat.le_refl _, fun _ _ => rfl, fun a ha => absurd ha (by simp), ⟨fun a k h => by simp [Heap.get] at h, fun a a' b h => absurd (by simp [Heap.get]) h⟩, ?_, fun b hb => absurd hb (hlv _ b), hfr⟩
  rw [hnone]
  exact rel_deep h4 hA' n _ _ _ (fun _ _ h => h) hd hrel
end Go.Proofs.YtncdaicaljpgfaaGreat
set_option linter.unusedVariables false
namespace Go.Proofs.YtncdaicaljpgfaaGreat
/-- Lists that may be nil. -/
abbrev Nl (α : Type) := Option (List α)
def Nl.l {α : Type} : Nl α → List α
  | none => []
  | some l => l
def nlv {α : Type} (f : α → List V) (n : Nat) : Nl α → V
  | none => .lst 0 [] (some 0)
  | some l => .lst (if l.length = 0 then 1000003 else n) (l.map f) none
section
variable {α : Type} {f : α → List V} {n : Nat} {o : Nl α} {i : Nat}
theorem lenQ_nlv : lenQ (nlv f n o) = some (.int .i64 o.l.length) := by cases o <;> simp [lenQ, nlv, Nl.l]
theorem iaQ_nlv (h : i < o.l.length) : iaQ n (nlv f n o) i = some (.iptr n (o.l.map f) i 0) := by
  cases o with
  | none => simp [Nl.l] at h
  | some l =>
    have h0 : ¬ l.length = 0 := by simp only [Nl.l] at h; omega
    have h' : i < l.length := h
    simp [iaQ, nlv, Nl.l, h', h0]
theorem closed_nlv : V.closed (nlv f n o) = true := by cases o <;> rfl
theorem isVal_nlv : V.isVal (nlv f n o) = true := by cases o <;> rfl
theorem cells_nlv : V.cells (nlv f n o) = [nlv f n o] := by cases o <;> rfl
theorem ren_nlv {σ : Nat → Sg} : V.ren σ (nlv f n o) = nlv f n o := V.ren_closed _ closed_nlv
theorem nlv_tl : ∃ s c, nlv f n o = tl f s o.l c ∧ (s = n ∨ o.l = []) := by
  cases o with
  | none => exact ⟨0, some 0, rfl, .inr rfl⟩
  | some l =>
    by_cases h : l.length = 0
    · exact ⟨1000003, none, by simp [nlv, Nl.l, h, tl], .inr (List.length_eq_zero_iff.1 h)⟩
    · exact ⟨n, none, by simp [nlv, Nl.l, h, tl], .inl rfl⟩
theorem isnilV_nlv : isnilV 0 (nlv f n o) = some o.isNone := by
  cases o with
  | none => rfl
  | some l => cases l <;> simp [nlv, isnilV]
end
attribute [push_cast] lenQ_nlv isVal_nlv cells_nlv closed_nlv ren_nlv
abbrev HG := Nat → Option Blk
abbrev FP := Nat → Prop
/-- A slice of plain rows, in a block of its own. -/
def OwnLf {α : Type} (f : α → List V) (n : Nat) (h : HG) (v : V) (o : Nl α) (F : FP) : Prop :=
  match o with
  | none => v = .lst 0 [] (some 0)
  | some l => (l = [] ∧ ∃ c, v = .lst 1000003 [] c) ∨ ∃ a c, v = .ref a n 0 l.length c ∧ h a = some (.arr n (l.map f)) ∧ F a
/-- A slice of rows that own what they point to. -/
def OwnSl {α : Type} (R : HG → List V → α → FP → Prop) (n : Nat) (h : HG) (v : V) (o : Nl α) (F : FP) : Prop :=
  match o with
  | none => v = .lst 0 [] (some 0)
  | some l => (l = [] ∧ ∃ c, v = .lst 1000003 [] c) ∨ ∃ (a : Nat) (c : Option Nat) (rs : List (List V)) (g : Nat → Nat), v = .ref a n 0 l.length c ∧ h a = some (.arr n rs) ∧ F a ∧ rs.length = l.length ∧
      ∀ (i : Nat) (row : List V) (x : α), rs[i]? = some row → l[i]? = some x → R h row x (fun b => (F b ∧ b ≠ a) ∧ g b = i)
/-- What a thing owns is all it hangs on. -/
def LocR {α : Type} (R : HG → List V → α → FP → Prop) : Prop := ∀ (h h' : HG) (row : List V) (x : α) (F F' : FP), R h row x F → (∀ b, F b → F' b ∧ h' b = h b) → R h' row x F'
/-- Seen whole, it is a row. -/
def DeepR {α : Type} (R : HG → List V → α → FP → Prop) (f : α → List V) (k : Nat) : Prop := ∀ (h : HG) (row : List V) (x : α) (F : FP), R h row x F → (f x).length = row.length ∧ ∀ (j : Nat) (c d : V), row[j]? = some c → (f x)[j]? = some d → Deep h k c d
/-- Memory put behind other memory. -/
def UpR {α : Type} (R : HG → List V → α → FP → Prop) : Prop := ∀ (h h' : HG) (m : Nat) (row : List V) (x : α) (F : FP), R h row x F → (∀ b B, h b = some B → h' (m + b) = some (B.ren (upσ m))) → R h' (row.map (V.ren (upσ m))) x (fun b => m ≤ b ∧ F (b - m))
theorem Deep.up {h : HG} : ∀ (n : Nat) {v v' : V}, Deep h n v v' → Deep h (n + 1) v v'
  | 0, _, _, hd => hd.elim
  | n + 1, v, v', hd => by
    cases v with
    | agg cs =>
      obtain ⟨ds, h1, h2, h3⟩ := hd
      exact ⟨ds, h1, h2, fun i c d hc hd => Deep.up n (h3 i c d hc hd)⟩
    | tup cs =>
      obtain ⟨ds, h1, h2, h3⟩ := hd
      exact ⟨ds, h1, h2, fun i c d hc hd => Deep.up n (h3 i c d hc hd)⟩
    | ref a size off len cap =>
      obtain ⟨rows, rs, h1, h2, h3, h4, h5, h6⟩ := hd
      exact ⟨rows, rs, h1, h2, h3, h4, fun i r r' hr hr' => ⟨(h5 i r r' hr hr').1, fun j c d hc hd => Deep.up n ((h5 i r r' hr hr').2 j c d hc hd)⟩, h6⟩
    | lst s rows cap =>
      rcases hd with hd | ⟨rs, h1, h2, h3⟩
      · exact .inl hd
      · exact .inr ⟨rs, h1, fun i r r' hr hr' => ⟨(h2 i r r' hr hr').1, fun j c d hc hd => Deep.up n ((h2 i r r' hr hr').2 j c d hc hd)⟩, h3⟩
    | _ => exact hd
theorem Deep.le {h : HG} {n m : Nat} (hnm : n ≤ m) {v v' : V} (hd : Deep h n v v') : Deep h m v v' := by
  induction hnm with
  | refl => exact hd
  | step _ ih => exact Deep.up _ ih
section
variable {α : Type} {f : α → List V} {R : HG → List V → α → FP → Prop} {n k : Nat} {h h' : HG} {v : V} {o : Nl α} {F F' : FP}
theorem OwnLf.loc (H : OwnLf f n h v o F) (hh : ∀ b, F b → F' b ∧ h' b = h b) : OwnLf f n h' v o F' := by
  cases o with
  | none => exact H
  | some l =>
    rcases H with H | ⟨a, c, h1, h2, h3⟩
    · exact .inl H
    · exact .inr ⟨a, c, h1, by rw [(hh a h3).2]; exact h2, (hh a h3).1⟩
theorem OwnSl.loc (hR : LocR R) (H : OwnSl R n h v o F) (hh : ∀ b, F b → F' b ∧ h' b = h b) : OwnSl R n h' v o F' := by
  cases o with
  | none => exact H
  | some l =>
    rcases H with H | ⟨a, c, rs, g, h1, h2, h3, h4, h5⟩
    · exact .inl H
    · exact .inr ⟨a, c, rs, g, h1, by rw [(hh a h3).2]; exact h2, (hh a h3).1, h4, fun i row x hr hx => hR _ _ _ _ _ _ (h5 i row x hr hx) (fun b hb => ⟨⟨⟨(hh b hb.1.1).1, hb.1.2⟩, hb.2⟩, (hh b hb.1.1).2⟩)⟩
theorem deep_row {f : α → List V} (hf : ∀ x, ∀ c ∈ f x, V.leaf c = true) {x : α} {j : Nat} {c d : V} (h1 : (f x)[j]? = some c) (h2 : (f x)[j]? = some d) : Deep h 1 c d := by
  rw [h1] at h2; cases h2
  have := hf x c (List.mem_of_getElem? h1)
  cases c <;> first | rfl | (simp [V.leaf] at this)
theorem OwnLf.deep (hf : ∀ x, ∀ c ∈ f x, V.leaf c = true) (hn : 0 < n) (H : OwnLf f n h v o F) : Deep h 2 v (nlv f n o) := by
  cases o with
  | none => obtain rfl : v = _ := H; exact .inl rfl
  | some l =>
    rcases H with ⟨rfl, c, rfl⟩ | ⟨a, c, rfl, h2, h3⟩
    · exact .inr ⟨[], rfl, fun i r r' hr => by simp at hr, rfl⟩
    · refine ⟨l.map f, l.map f, h2, hn, by simp, by simp, fun i r r' hr hr' => ?_, rfl⟩
      rw [Nat.zero_add, hr'] at hr; cases hr
      rw [List.getElem?_map, Option.map_eq_some_iff] at hr'
      obtain ⟨x, _, rfl⟩ := hr'
      exact ⟨rfl, fun j c d h1 h2 => deep_row hf h1 h2⟩
theorem OwnSl.deep (hD : DeepR R f k) (hn : 0 < n) (H : OwnSl R n h v o F) : Deep h (k + 1) v (nlv f n o) := by
  cases o with
  | none => obtain rfl : v = _ := H; exact .inl rfl
  | some l =>
    rcases H with ⟨rfl, c, rfl⟩ | ⟨a, c, rs, g, rfl, h2, h3, h4, h5⟩
    · exact .inr ⟨[], rfl, fun i r r' hr => by simp at hr, rfl⟩
    · refine ⟨rs, l.map f, h2, hn, by omega, by simp, fun i r r' hr hr' => ?_, rfl⟩
      rw [Nat.zero_add] at hr
      rw [List.getElem?_map, Option.map_eq_some_iff] at hr'
      obtain ⟨x, hx, rfl⟩ := hr'
      exact hD h r x _ (h5 i r x hr hx)
theorem ren_up_ref {n a s o m : Nat} {c : Option Nat} : V.ren (upσ n) (.ref a s o m c) = .ref (n + a) s o m c := by simp [V.ren, upσ]
theorem ren_up_blk {m s : Nat} {rows : List (List V)} : Blk.ren (upσ m) (.arr s rows) = .arr s (rows.map fun r => r.map (V.ren (upσ m))) := rfl
theorem leaf_ren {v : V} (h : v.leaf = true) (σ : Nat → Sg) : V.ren σ v = v := by cases v <;> first | rfl | (simp [V.leaf] at h)
theorem row_ren (hf : ∀ x, ∀ c ∈ f x, V.leaf c = true) (σ : Nat → Sg) (x : α) : (f x).map (V.ren σ) = f x := by
  have : ∀ (l : List V), (∀ c ∈ l, V.leaf c = true) → l.map (V.ren σ) = l := fun l => by
    induction l with
    | nil => intro _; rfl
    | cons c r ih => intro h; rw [List.map_cons, leaf_ren (h c List.mem_cons_self), ih (fun d hd => h d (List.mem_cons_of_mem _ hd))]
  exact this _ (hf x)
theorem OwnLf.up (hf : ∀ x, ∀ c ∈ f x, V.leaf c = true) {m : Nat} (hh : ∀ b B, h b = some B → h' (m + b) = some (B.ren (upσ m))) (H : OwnLf f n h v o F) : OwnLf f n h' (v.ren (upσ m)) o (fun b => m ≤ b ∧ F (b - m)) := by
  cases o with
  | none => obtain rfl : v = _ := H; rfl
  | some l =>
    rcases H with ⟨rfl, c, rfl⟩ | ⟨a, c, rfl, h2, h3⟩
    · exact .inl ⟨rfl, c, rfl⟩
    · refine .inr ⟨m + a, c, ren_up_ref, ?_, by omega, by rw [Nat.add_sub_cancel_left]; exact h3⟩
      rw [hh a _ h2, ren_up_blk, List.map_map]
      congr 2
      exact List.map_congr_left fun x _ => row_ren hf _ x
theorem OwnSl.up (hR : LocR R) (hU : UpR R) {m : Nat} (hh : ∀ b B, h b = some B → h' (m + b) = some (B.ren (upσ m))) (H : OwnSl R n h v o F) : OwnSl R n h' (v.ren (upσ m)) o (fun b => m ≤ b ∧ F (b - m)) := by
  cases o with
  | none => obtain rfl : v = _ := H; rfl
  | some l =>
    rcases H with ⟨rfl, c, rfl⟩ | ⟨a, c, rs, g, rfl, h2, h3, h4, h5⟩
    · exact .inl ⟨rfl, c, rfl⟩
    · refine .inr ⟨m + a, c, rs.map (fun r => r.map (V.ren (upσ m))), fun b => g (b - m), ren_up_ref, by rw [hh a _ h2, ren_up_blk], ⟨by omega, by rw [Nat.add_sub_cancel_left]; exact h3⟩, by simp [h4], fun i row x hr hx => ?_⟩
      rw [List.getElem?_map, Option.map_eq_some_iff] at hr
      obtain ⟨r, hr, rfl⟩ := hr
      refine hR _ _ _ _ _ _ (hU h h' m r x _ (h5 i r x hr hx) hh) (fun b hb => ⟨⟨⟨⟨hb.1, hb.2.1.1⟩, ?_⟩, hb.2.2⟩, rfl⟩)
      have := hb.2.1.2
      omega
end
end Go.Proofs.YtncdaicaljpgfaaGreat
set_option linter.unusedVariables false
namespace Go.Proofs.YtncdaicaljpgfaaGreat
open Go.ChangeShapes Go.WideShapes Go.ChangeAt Go.RowKit Go.Joins
/-- Nothing that lies there is written. -/
abbrev OldW (W : World) (b : Nat) : Prop := Imm (fun b => W.heap.size ≤ b ∨ True) W (fun _ => none) (Heap.get []) b
theorem oldW_of {W : World} {b o : Nat} {x : Value} (h : W.cell? ⟨b, o, none⟩ = some x) : OldW W b := by
  unfold World.cell? at h
  dsimp only at h
  split at h
  · rename_i c T fz hb
    exact ⟨(Array.getElem?_eq_some_iff.1 hb).1, fun ⟨a, ha, _⟩ => by simp [Heap.get] at ha, .inr trivial, c, T, fz, hb⟩
  · cases h
theorem add_add {a : Addr} {i j : Nat} : a.add (i + j) = (a.add i).add j := by
  unfold Addr.add
  by_cases h1 : i = 0
  · subst h1; simp
  · by_cases h2 : j = 0
    · subst h2; simp
    · rw [if_neg h1, if_neg h2, if_neg (by omega), Nat.add_assoc]
/-- Cells of a type, as rows of AL. -/
def OpenT (P : Program) (N : Nums) {α : Type} (t : TypeId) (f : α → List V) (good : α → Prop) : Prop :=
  ∀ (H : Type) (enc : TypeId × Value → H) (W : World) (fuel : Nat) (cs : List Value) (d : DataW H) (ps : List MemPlace), DataW.trod enc P W 0 (fun _ => true) true fuel t cs = some (d, ps) → (∀ m ∈ d.weights P t, m ≤ reachBytes) →
    ∃ a : α, good a ∧ (f a).length = cs.length ∧ ∀ (i : Nat) (c : V) (y : Value), (f a)[i]? = some c → cs[i]? = some y → y.oneCell' = true ∧ Rel N W (OldW W) (fun _ => none) c y
section
variable {P : Program} {N : Nums} {α β : Type} {t e : TypeId} {f : α → List V} {good : α → Prop}
theorem open_one {v : V} {x : Value} {cs : List Value} (hcs : cs = [x]) {Q : V → Value → Prop} (h : Q v x) : ([v]).length = cs.length ∧ ∀ (i : Nat) (c : V) (y : Value), ([v])[i]? = some c → cs[i]? = some y → Q c y := by
  subst hcs
  refine ⟨rfl, fun i c y hc hy => ?_⟩
  cases i with
  | zero => simp at hc hy; subst hc hy; exact h
  | succ i => simp at hc
theorem OpenT.int {k : IntKind} (ht : P.underlying t = some (.int k)) : OpenT P N t (fun n : Int => [.int k n]) (fun n => k.min ≤ n ∧ n ≤ k.max) := fun H enc W fuel cs d ps h _ => by
  obtain ⟨n, hcs, _, hw⟩ := DataW.trod_int ht h
  refine ⟨n, ?_, open_one hcs ⟨rfl, .int _ _ _⟩⟩
  simpa [Lit.wf] using hw
theorem OpenT.bool (ht : P.underlying t = some .bool) : OpenT P N t (fun b : Bool => [.bool b]) (fun _ => True) := fun H enc W fuel cs d ps h _ => by
  obtain ⟨n, hcs, _⟩ := DataW.trod_bool ht h
  exact ⟨n, trivial, open_one hcs ⟨rfl, .bool _ _⟩⟩
theorem OpenT.str (ht : P.underlying t = some .string) : OpenT P N t (fun s : List UInt8 => [.str s]) (fun s => s.length ≤ reachBytes) := fun H enc W fuel cs d ps h hr => by
  obtain ⟨s, hcs, hd, _⟩ := DataW.trod_string ht h
  simp only [Prod.mk.injEq] at hd
  obtain ⟨rfl, rfl⟩ := hd
  exact ⟨s.data.toList, hr _ (by simp [DataW.weights]), open_one hcs ⟨rfl, .str _ _⟩⟩
theorem weights_all {H : Type} {e : TypeId} : ∀ {l : List (DataW H)} {i : Nat} {d : DataW H} {m : Nat}, l[i]? = some d → m ∈ d.weights P e → m ∈ DataW.weightsAll P e l
  | [], i, d, m, h, _ => by simp at h
  | x :: l, 0, d, m, h, hm => by simp at h; subst h; simp only [DataW.weightsAll]; exact List.mem_append_left _ hm
  | x :: l, i + 1, d, m, h, hm => by simp only [DataW.weightsAll]; exact List.mem_append_right _ (weights_all (i := i) (by simpa using h) hm)
theorem choose_list {α : Type} (Q : Nat → α → Prop) : ∀ (n : Nat), (∀ i, i < n → ∃ x, Q i x) → ∃ l : List α, l.length = n ∧ ∀ i x, l[i]? = some x → Q i x
  | 0, _ => ⟨[], rfl, fun i x h => by simp at h⟩
  | n + 1, h => by
    obtain ⟨l, h1, h2⟩ := choose_list Q n (fun i hi => h i (by omega))
    obtain ⟨x, hx⟩ := h n (by omega)
    refine ⟨l ++ [x], by simp [h1], fun i y hi => ?_⟩
    by_cases c : i < l.length
    · rw [List.getElem?_append_left c] at hi; exact h2 i y hi
    · rw [List.getElem?_append_right (by omega)] at hi
      have : i - l.length = 0 := by
        have := (List.getElem?_eq_some_iff.1 hi).1; simp at this; omega
      rw [this] at hi; simp at hi; subst hi
      rw [show i = n by omega]; exact hx
theorem OpenT.slice {n : Nat} (ht : P.underlying t = some (.slice e)) (hn : P.cellsOf e = n) (h0 : 0 < n) (hl : ∀ a, (f a).length = n) (he : OpenT P N e f good) : OpenT P N t (fun o : Nl α => [nlv f n o]) (fun o => o.l.length * P.bytesOf e ≤ reachBytes ∧ ∀ x ∈ o.l, good x) := fun H enc W fuel cs d ps h hr => by
  rcases DataW.trod_slice ht h with ⟨hcs, _⟩ | ⟨a, len, cap, elems, rest, m, _, hcs, hd, hb, hlc, hm, hlen, hel, _, _⟩
  · exact ⟨none, ⟨by simp [Nl.l], fun x hx => by simp [Nl.l] at hx⟩, open_one hcs ⟨rfl, .lst _ 0 [] (some 0) none 0 0 0 (fun _ _ => undef) (fun k hk => by cases hk; rfl) (Nat.le_refl _) (fun h => by simp at h) (fun _ => rfl) (fun i row h => by simp at h) (fun i row j x h => by simp at h) (fun i row j x h => by simp at h) ⟨fun _ _ => rfl, fun h => by simp at h⟩⟩⟩
  · simp only [Prod.mk.injEq] at hd
    obtain ⟨rfl, rfl⟩ := hd
    have hb1 : (elems.length + rest.length) * P.bytesOf e ≤ reachBytes := hr _ (by simp [DataW.weights, ht])
    have each : ∀ i, i < len → ∃ x : α, good x ∧ ∀ (j : Nat) (c : V), (f x)[j]? = some c → ∃ y, W.cell? (a.add (i * n + j)) = some y ∧ y.oneCell' = true ∧ Rel N W (OldW W) (fun _ => none) c y := fun i hi => by
      have h1 := hel i hi
      have hg : elems[i]? = some elems[i] := List.getElem?_eq_getElem (by omega)
      rw [hg, Option.bind_eq_some_iff] at h1
      obtain ⟨cs', h2, h3⟩ := h1
      obtain ⟨_, h4, h5⟩ := World.cells?_some h2
      obtain ⟨x, g1, g2, g3⟩ := he H enc W m cs' elems[i].1 elems[i].2 h3 (fun q hq => hr q (by
        simp only [DataW.weights, ht]
        refine List.mem_cons_of_mem _ (List.mem_append_left _ (weights_all (i := i) (d := elems[i].1) ?_ hq))
        rw [List.getElem?_map, hg]; rfl))
      refine ⟨x, g1, fun j c hc => ?_⟩
      have hj : j < n := by have := (List.getElem?_eq_some_iff.1 hc).1; rw [hl] at this; exact this
      have hy : cs'[j]? = some (cs'[j]'(by omega)) := List.getElem?_eq_getElem _
      have h6 := h5 j (by omega)
      rw [hy, hn] at h6
      obtain ⟨k1, k2⟩ := g3 j c _ hc hy
      refine ⟨_, ?_, k1, k2⟩
      rw [← h6, add_add]
    obtain ⟨l, hl1, hl2⟩ := choose_list _ len each
    have hrow : ∀ (i : Nat) (row : List V), (l.map f)[i]? = some row → ∃ x, row = f x ∧ row.length = n ∧ l[i]? = some x := fun i row hi => by
      rw [List.getElem?_map, Option.map_eq_some_iff] at hi
      obtain ⟨x, hx, rfl⟩ := hi
      exact ⟨x, rfl, hl x, hx⟩
    have hspot : 0 < l.length → a = ⟨a.block, a.off, none⟩ := fun h0' => by
      obtain ⟨x, hx⟩ : ∃ x, l[0]? = some x := ⟨l[0], List.getElem?_eq_getElem h0'⟩
      obtain ⟨c, hc⟩ : ∃ c, (f x)[0]? = some c := ⟨(f x)[0]'(by rw [hl]; exact h0), List.getElem?_eq_getElem _⟩
      obtain ⟨y, hy, _⟩ := (hl2 0 x hx).2 0 c hc
      obtain ⟨b, off, spot⟩ := a
      have := World.cell?_spot hy
      simp [Addr.add] at this
      subst this; rfl
    have hcell : ∀ (i : Nat) (x : α) (j : Nat) (c : V), l[i]? = some x → (f x)[j]? = some c → ∃ y, W.cell? ⟨a.block, a.off + i * n + j, none⟩ = some y ∧ y.oneCell' = true ∧ Rel N W (OldW W) (fun _ => none) c y := fun i x j c hx hc => by
      obtain ⟨y, k1, k2⟩ := (hl2 i x hx).2 j c hc
      refine ⟨y, ?_, k2⟩
      have hs := hspot (by have := (List.getElem?_eq_some_iff.1 hx).1; omega)
      rw [hs] at k1
      rw [← k1]
      congr 1
      simp [Addr.add, Nat.add_assoc]
    refine ⟨some l, ⟨?_, fun x hx => ?_⟩, open_one hcs ⟨rfl, ?_⟩⟩
    · refine Nat.le_trans (Nat.mul_le_mul_right _ ?_) hb1
      show l.length ≤ _
      omega
    · obtain ⟨i, hi⟩ := List.mem_iff_getElem?.1 hx
      exact (hl2 i x hi).1
    · have hz : ∀ {i : Nat} {row : List V}, (l.map f)[i]? = some row → ¬ l.length = 0 := fun hi => by
        have := (List.getElem?_eq_some_iff.1 hi).1; simp at this; omega
      have := Rel.lst (N := N) (w := W) (S := OldW W) (fun _ => none) (if l.length = 0 then 1000003 else n) (l.map f) none (some a) cap a.block a.off (fun i j => (W.cell? ⟨a.block, a.off + i * n + j, none⟩).getD undef) (fun k hk => by cases hk) (by simp; omega)
        (fun h0' => by
          have h1 : 0 < l.length := by simpa using h0'
          refine ⟨congrArg some (hspot h1), ?_⟩
          obtain ⟨x, hx⟩ : ∃ x, l[0]? = some x := ⟨l[0], List.getElem?_eq_getElem h1⟩
          obtain ⟨c, hc⟩ : ∃ c, (f x)[0]? = some c := ⟨(f x)[0]'(by rw [hl]; exact h0), List.getElem?_eq_getElem _⟩
          obtain ⟨y, hy, _⟩ := hcell 0 x 0 c hx hc
          exact oldW_of hy) (fun h => by cases h)
        (fun i row hi => by
          rw [if_neg (hz hi)]
          obtain ⟨x, _, h2, _⟩ := hrow i row hi
          exact h2)
        (fun i row j c hi hj => by
          rw [if_neg (hz hi)]
          obtain ⟨x, rfl, _, h3⟩ := hrow i row hi
          obtain ⟨y, k1, k2, _⟩ := hcell i x j c h3 hj
          rw [k1]; exact ⟨rfl, k2⟩)
        (fun i row j c hi hj => by
          obtain ⟨x, rfl, _, h3⟩ := hrow i row hi
          obtain ⟨y, k1, _, k3⟩ := hcell i x j c h3 hj
          rw [k1]; exact k3) ⟨fun e1 e2 => (by rw [List.length_map] at e2; rw [if_pos e2] at e1; cases e1), fun _ _ => (by intro h; cases h)⟩
      rw [List.length_map] at this
      rw [← hl1]
      exact this
/-- Fields, one after another. -/
def OpenFs (P : Program) (N : Nums) {α : Type} (off : Nat) (fs : List Field) (f : α → List V) (good : α → Prop) : Prop :=
  ∀ (H : Type) (enc : TypeId × Value → H) (W : World) (m : Nat) (cs : List Value) (xs : List (DataW H × List MemPlace)), xs.length = fs.length → (∀ (i : Nat) (fd : Field), fs[i]? = some fd → DataW.trod enc P W 0 (fun _ => true) true m fd.type ((cs.drop fd.offset).take (P.cellsOf fd.type)) = xs[i]?) →
    (∀ q ∈ DataW.weightsEach P (fs.map (·.type)) (xs.map (·.1)), q ≤ reachBytes) → ∃ a : α, good a ∧ ∀ (i : Nat) (c : V) (y : Value), (f a)[i]? = some c → cs[off + i]? = some y → y.oneCell' = true ∧ Rel N W (OldW W) (fun _ => none) c y
theorem OpenFs.nil {off : Nat} : OpenFs P N off [] (fun _ : Unit => []) (fun _ => True) := fun H enc W m cs xs _ _ _ => ⟨(), trivial, fun i c y h => by simp at h⟩
theorem OpenFs.cons {off n : Nat} {fd : Field} {fs : List Field} {g : β → List V} {goodg : β → Prop} (ho : fd.offset = off) (hc : P.cellsOf fd.type = n) (hl : ∀ a, (f a).length = n) (h : OpenT P N fd.type f good) (hs : OpenFs P N (off + n) fs g goodg) :
    OpenFs P N off (fd :: fs) (fun p : α × β => f p.1 ++ g p.2) (fun p => good p.1 ∧ goodg p.2) := fun H enc W m cs xs hx hf hr => by
  cases xs with
  | nil => simp at hx
  | cons x xs =>
    have h1 := hf 0 fd rfl
    simp only [List.getElem?_cons_zero] at h1
    obtain ⟨a, g1, g2, g3⟩ := h H enc W m _ x.1 x.2 h1 (fun q hq => hr q (by simp only [List.map_cons, DataW.weightsEach]; exact List.mem_append_left _ hq))
    obtain ⟨b, k1, k2⟩ := hs H enc W m cs xs (by simpa using hx) (fun i fd' hi => by have := hf (i + 1) fd' (by simpa using hi); simpa using this) (fun q hq => hr q (by simp only [List.map_cons, DataW.weightsEach]; exact List.mem_append_right _ hq))
    refine ⟨(a, b), ⟨g1, k1⟩, fun i c y hci hy => ?_⟩
    simp only at hci
    by_cases q : i < n
    · rw [List.getElem?_append_left (by rw [hl]; exact q)] at hci
      refine g3 i c y hci ?_
      rw [List.getElem?_take, hc, if_pos q, List.getElem?_drop, ho]; exact hy
    · rw [List.getElem?_append_right (by rw [hl]; omega), hl] at hci
      exact k2 (i - n) c y hci (by rw [show off + n + (i - n) = off + i by omega]; exact hy)
theorem OpenT.struct {fs : Array Field} (ht : P.underlying t = some (.struct fs)) (hl : ∀ a, (f a).length = P.cellsOf t) (h : OpenFs P N 0 fs.toList f good) : OpenT P N t f good := fun H enc W fuel cs d ps hd hr => by
  obtain ⟨xs, n, _, hx, hlen, hxl, hfs⟩ := DataW.trod_struct ht hd
  simp only [Prod.mk.injEq] at hx
  obtain ⟨rfl, rfl⟩ := hx
  obtain ⟨a, h1, h2⟩ := h H enc W n cs xs (by simpa using hxl) (fun i fd hi => hfs i fd (by simpa using hi)) (fun q hq => hr q (by simpa [DataW.weights, ht] using hq))
  exact ⟨a, h1, by rw [hl, hlen], fun i c y hc hy => h2 i c y hc (by rw [Nat.zero_add]; exact hy)⟩
theorem OpenT.map {f' : β → List V} {good' : β → Prop} (h : OpenT P N t f good) (g : α → β) (h1 : ∀ a, f' (g a) = f a) (h2 : ∀ a, good a → good' (g a)) : OpenT P N t f' good' := fun H enc W fuel cs d ps hd hr => by
  obtain ⟨a, g1, g2, g3⟩ := h H enc W fuel cs d ps hd hr
  exact ⟨g a, h2 a g1, by rw [h1]; exact g2, fun i c y hc hy => g3 i c y (by rw [← h1]; exact hc) hy⟩
/-- A struct that came in. -/
theorem OpenT.agg {fs : Array Field} (ht : P.underlying t = some (.struct fs)) (h : OpenT P N t f good) {H : Type} {enc : TypeId × Value → H} {W : World} {r : Reach} {b0 : Nat} {v : Value} {d : DataW H} {ps : List MemPlace} (hv : Value.okWide P W r b0 t v) (hd : DataW.Trod enc P W 0 (fun _ => true) true t v d ps) (hr : ∀ m ∈ d.weights P t, m ≤ reachBytes) :
    ∃ a : α, good a ∧ Rel N W (OldW W) (fun _ => none) (.agg (f a)) v := by
  obtain ⟨cs, rfl, _⟩ := okWide_struct ht hv
  obtain ⟨fuel, hf⟩ := hd
  obtain ⟨a, h1, h2, h3⟩ := h H enc W fuel _ d ps hf hr
  have hc : (Value.agg cs).cells = cs := rfl
  rw [hc] at h2 h3
  refine ⟨a, h1, .agg _ _ _ (by simpa using h2.symm) (fun i y hy => ?_) (fun i c y hc hy => (h3 i c y hc (by simpa using hy)).2)⟩
  have hlt : i < (f a).length := by rw [h2]; simpa using (Array.getElem?_eq_some_iff.1 hy).1
  exact (h3 i _ y (List.getElem?_eq_getElem hlt) (by simpa using hy)).1
/-- A slice that came in. -/
theorem OpenT.cell (g : α → V) (ht : P.underlying t = some (.slice e)) (h : OpenT P N t (fun a => [g a]) good) {H : Type} {enc : TypeId × Value → H} {W : World} {r : Reach} {b0 : Nat} {v : Value} {d : DataW H} {ps : List MemPlace} (hv : Value.okWide P W r b0 t v) (hd : DataW.Trod enc P W 0 (fun _ => true) true t v d ps) (hr : ∀ m ∈ d.weights P t, m ≤ reachBytes) :
    ∃ a : α, good a ∧ Rel N W (OldW W) (fun _ => none) (g a) v := by
  obtain ⟨a0, len, cap, rfl⟩ := okWide_slice ht hv
  obtain ⟨fuel, hf⟩ := hd
  obtain ⟨a, h1, h2, h3⟩ := h H enc W fuel _ d ps hf hr
  exact ⟨a, h1, (h3 0 _ _ rfl rfl).2⟩
end
end Go.Proofs.YtncdaicaljpgfaaGreat
set_option linter.unusedVariables false
namespace Go.Proofs.YtncdaicaljpgfaaGreat
structure Rt where
  neg : Bool
  num : Nl Int
  den : Nl Int
structure Rd where
  had : Nl Rt
  lost : Rt
  el : Nl Int
  out : Nl Int
structure Ti where
  among : Nl Int
  chosen : Int
structure Oc where
  el : Nl Int
  rounds : Nl Rd
  ties : Nl Ti
def urow (x : Int) : List V := [.int .u32 x]
def rtrow (r : Rt) : List V := [.bool r.neg, nlv urow 1 r.num, nlv urow 1 r.den]
def rdrow (d : Rd) : List V := [nlv rtrow 3 d.had, .bool d.lost.neg, nlv urow 1 d.lost.num, nlv urow 1 d.lost.den, nlv mrow 1 d.el, nlv mrow 1 d.out]
def tirow (t : Ti) : List V := [nlv mrow 1 t.among, .int .i64 t.chosen]
def occs (o : Oc) : List V := [nlv mrow 1 o.el, nlv rdrow 6 o.rounds, nlv tirow 2 o.ties]
def ocv (o : Oc) : V := .agg (occs o)
theorem leaf_urow (x : Int) : ∀ c ∈ urow x, V.leaf c = true := fun c hc => by simp [urow] at hc; subst hc; rfl
theorem leaf_mrow (x : Int) : ∀ c ∈ mrow x, V.leaf c = true := fun c hc => by simp [mrow] at hc; subst hc; rfl
theorem closed_urow (x : Int) : (urow x).all V.closed = true := rfl
theorem closed_rtrow (r : Rt) : (rtrow r).all V.closed = true := by simp [rtrow, closed_nlv, V.closed]
theorem closed_rdrow (d : Rd) : (rdrow d).all V.closed = true := by simp [rdrow, closed_nlv, V.closed]
theorem closed_tirow (t : Ti) : (tirow t).all V.closed = true := by simp [tirow, closed_nlv, V.closed]
theorem closed_ocv (o : Oc) : (ocv o).closed = true := by simp [ocv, occs, closed_nlv, V.closed, V.closeds]
def OwnRt (h : HG) (row : List V) (r : Rt) (F : FP) : Prop := ∃ (v1 v2 : V) (g : Nat → Nat), row = [.bool r.neg, v1, v2] ∧ OwnLf urow 1 h v1 r.num (fun b => F b ∧ g b = 0) ∧ OwnLf urow 1 h v2 r.den (fun b => F b ∧ g b = 1)
def OwnRd (h : HG) (row : List V) (d : Rd) (F : FP) : Prop := ∃ (vh v1 v2 ve vo : V) (g : Nat → Nat), row = [vh, .bool d.lost.neg, v1, v2, ve, vo] ∧ OwnSl OwnRt 3 h vh d.had (fun b => F b ∧ g b = 0) ∧ OwnLf urow 1 h v1 d.lost.num (fun b => F b ∧ g b = 1) ∧
  OwnLf urow 1 h v2 d.lost.den (fun b => F b ∧ g b = 2) ∧ OwnLf mrow 1 h ve d.el (fun b => F b ∧ g b = 3) ∧ OwnLf mrow 1 h vo d.out (fun b => F b ∧ g b = 4)
def OwnTi (h : HG) (row : List V) (t : Ti) (F : FP) : Prop := ∃ va : V, row = [va, .int .i64 t.chosen] ∧ OwnLf mrow 1 h va t.among F
def OwnOc (h : HG) (v : V) (o : Oc) (F : FP) : Prop := ∃ (ve vr vt : V) (g : Nat → Nat), v = .agg [ve, vr, vt] ∧ OwnLf mrow 1 h ve o.el (fun b => F b ∧ g b = 0) ∧ OwnSl OwnRd 6 h vr o.rounds (fun b => F b ∧ g b = 1) ∧ OwnSl OwnTi 2 h vt o.ties (fun b => F b ∧ g b = 2)
theorem loc_tag {F F' : FP} {g : Nat → Nat} {k : Nat} {h h' : HG} (hh : ∀ b, F b → F' b ∧ h' b = h b) : ∀ b, (F b ∧ g b = k) → (F' b ∧ g b = k) ∧ h' b = h b := fun b hb => ⟨⟨(hh b hb.1).1, hb.2⟩, (hh b hb.1).2⟩
theorem loc_rt : LocR OwnRt := fun h h' row x F F' ⟨v1, v2, g, h1, h2, h3⟩ hh => ⟨v1, v2, g, h1, h2.loc (loc_tag hh), h3.loc (loc_tag hh)⟩
theorem loc_rd : LocR OwnRd := fun h h' row x F F' ⟨vh, v1, v2, ve, vo, g, h0, h1, h2, h3, h4, h5⟩ hh => ⟨vh, v1, v2, ve, vo, g, h0, h1.loc loc_rt (loc_tag hh), h2.loc (loc_tag hh), h3.loc (loc_tag hh), h4.loc (loc_tag hh), h5.loc (loc_tag hh)⟩
theorem loc_ti : LocR OwnTi := fun h h' row x F F' ⟨va, h1, h2⟩ hh => ⟨va, h1, h2.loc hh⟩
theorem OwnOc.loc {h h' : HG} {v : V} {o : Oc} {F F' : FP} (H : OwnOc h v o F) (hh : ∀ b, F b → F' b ∧ h' b = h b) : OwnOc h' v o F' := by
  obtain ⟨ve, vr, vt, g, h1, h2, h3, h4⟩ := H
  exact ⟨ve, vr, vt, g, h1, h2.loc (loc_tag hh), h3.loc loc_rd (loc_tag hh), h4.loc loc_ti (loc_tag hh)⟩
theorem deep_leaf {h : HG} {v : V} (hv : v.leaf = true) (n : Nat) : Deep h (n + 1) v v := by cases v <;> first | rfl | (simp [V.leaf] at hv)
theorem deep_cells {h : HG} {k : Nat} : ∀ {r r' : List V}, (∀ p ∈ r.zip r', Deep h k p.1 p.2) → ∀ (j : Nat) (c d : V), r[j]? = some c → r'[j]? = some d → Deep h k c d := fun {r r'} hz j c d hc hd => by
  refine hz (c, d) (List.mem_of_getElem? (i := j) ?_)
  rw [List.getElem?_zip_eq_some]
  exact ⟨hc, hd⟩
theorem deep_rt : DeepR OwnRt rtrow 2 := fun h row x F ⟨v1, v2, g, h1, h2, h3⟩ => by
  subst h1
  refine ⟨rfl, deep_cells (fun p hp => ?_)⟩
  simp only [rtrow, List.zip_cons_cons, List.zip_nil_right, List.mem_cons, List.not_mem_nil, or_false] at hp
  rcases hp with rfl | rfl | rfl
  · exact deep_leaf rfl 1
  · exact h2.deep leaf_urow (by decide)
  · exact h3.deep leaf_urow (by decide)
theorem deep_rd : DeepR OwnRd rdrow 3 := fun h row x F ⟨vh, v1, v2, ve, vo, g, h0, h1, h2, h3, h4, h5⟩ => by
  subst h0
  refine ⟨rfl, deep_cells (fun p hp => ?_)⟩
  simp only [rdrow, List.zip_cons_cons, List.zip_nil_right, List.mem_cons, List.not_mem_nil, or_false] at hp
  rcases hp with rfl | rfl | rfl | rfl | rfl | rfl
  · exact h1.deep deep_rt (by decide)
  · exact deep_leaf rfl 2
  · exact (h2.deep leaf_urow (by decide)).le (by decide)
  · exact (h3.deep leaf_urow (by decide)).le (by decide)
  · exact (h4.deep leaf_mrow (by decide)).le (by decide)
  · exact (h5.deep leaf_mrow (by decide)).le (by decide)
theorem deep_ti : DeepR OwnTi tirow 2 := fun h row x F ⟨va, h1, h2⟩ => by
  subst h1
  refine ⟨rfl, deep_cells (fun p hp => ?_)⟩
  simp only [tirow, List.zip_cons_cons, List.zip_nil_right, List.mem_cons, List.not_mem_nil, or_false] at hp
  rcases hp with rfl | rfl
  · exact h2.deep leaf_mrow (by decide)
  · exact deep_leaf rfl 1
theorem OwnOc.deep {h : HG} {v : V} {o : Oc} {F : FP} (H : OwnOc h v o F) : Deep h 5 v (ocv o) := by
  obtain ⟨ve, vr, vt, g, rfl, h2, h3, h4⟩ := H
  refine ⟨occs o, rfl, rfl, deep_cells (fun p hp => ?_)⟩
  simp only [occs, List.zip_cons_cons, List.zip_nil_right, List.mem_cons, List.not_mem_nil, or_false] at hp
  rcases hp with rfl | rfl | rfl
  · exact (h2.deep leaf_mrow (by decide)).le (by decide)
  · exact h3.deep deep_rd (by decide)
  · exact (h4.deep deep_ti (by decide)).le (by decide)
theorem tag_up {F : FP} {g : Nat → Nat} {k m : Nat} {h : HG} : ∀ b, (m ≤ b ∧ (fun b => F b ∧ g b = k) (b - m)) → ((m ≤ b ∧ F (b - m)) ∧ g (b - m) = k) ∧ h b = h b := fun b hb => ⟨⟨⟨hb.1, hb.2.1⟩, hb.2.2⟩, rfl⟩
theorem up_rt : UpR OwnRt := fun h h' m row x F ⟨v1, v2, g, h1, h2, h3⟩ hh => by
  subst h1
  exact ⟨_, _, fun b => g (b - m), rfl, (h2.up leaf_urow hh).loc tag_up, (h3.up leaf_urow hh).loc tag_up⟩
theorem up_rd : UpR OwnRd := fun h h' m row x F ⟨vh, v1, v2, ve, vo, g, h0, h1, h2, h3, h4, h5⟩ hh => by
  subst h0
  exact ⟨_, _, _, _, _, fun b => g (b - m), rfl, (h1.up loc_rt up_rt hh).loc loc_rt tag_up, (h2.up leaf_urow hh).loc tag_up, (h3.up leaf_urow hh).loc tag_up, (h4.up leaf_mrow hh).loc tag_up, (h5.up leaf_mrow hh).loc tag_up⟩
theorem up_ti : UpR OwnTi := fun h h' m row x F ⟨va, h1, h2⟩ hh => by
  subst h1
  exact ⟨_, rfl, h2.up leaf_mrow hh⟩
theorem OwnOc.up {h h' : HG} {v : V} {o : Oc} {F : FP} {m : Nat} (H : OwnOc h v o F) (hh : ∀ b B, h b = some B → h' (m + b) = some (B.ren (upσ m))) : OwnOc h' (v.ren (upσ m)) o (fun b => m ≤ b ∧ F (b - m)) := by
  obtain ⟨ve, vr, vt, g, rfl, h2, h3, h4⟩ := H
  exact ⟨_, _, _, fun b => g (b - m), rfl, (h2.up leaf_mrow hh).loc tag_up, (h3.up loc_rd up_rd hh).loc loc_rd tag_up, (h4.up loc_ti up_ti hh).loc loc_ti tag_up⟩
end Go.Proofs.YtncdaicaljpgfaaGreat
set_option linter.unusedVariables false
namespace Go.Proofs.YtncdaicaljpgfaaGreat
open Go.Sort
section
variable {α : Type} [Inhabited α] {k : Nat} {row : α → List V} {enc : α → List Value}
/-- How things are rows of an abstract block, and cells. -/
structure RowEnc (k : Nat) (row : α → List V) (enc : α → List Value) : Prop where
  pos : 0 < k
  rl : ∀ x, (row x).length = k
  el : ∀ x, (enc x).length = k
  one : ∀ x, ∀ v ∈ enc x, v.oneCell' = true
  to : ∀ (N : Nums) (w : World) (S : Nat → Prop) (β : Nat → Option Nat) (x : α) (i : Nat) (c : V) (y : Value), (row x)[i]? = some c → (enc x)[i]? = some y → Rel N w S β c y
  fr : ∀ (N : Nums) (w : World) (S : Nat → Prop) (β : Nat → Option Nat) (x : α) (i : Nat) (c : V) (y : Value), (row x)[i]? = some c → Rel N w S β c y → (enc x)[i]? = some y
variable {N : Nums} {w : World} {S : Nat → Prop} {β : Nat → Option Nat} {b : Nat}
theorem RowEnc.holds (h : RowEnc k row enc) {l : List α} (hb : BlkR N w S β (.arr k (l.map row)) b) : HoldsK enc k w b 0 l.toArray := by
  obtain ⟨cells, T, fz, h1, h2, h3, h4⟩ := hb
  intro j hj
  rw [size_flatK] at hj
  have hj' : j < l.length * k := by simpa using hj
  have hi : j / k < l.length := (Nat.div_lt_iff_lt_mul h.pos).2 hj'
  have hc : j % k < k := Nat.mod_lt _ h.pos
  have hsum : j / k * k + j % k = j := by rw [Nat.mul_comm]; exact Nat.div_add_mod j k
  have hx : l[j / k]? = some l[j / k] := List.getElem?_eq_getElem hi
  have hv : (row l[j / k])[j % k]? = some ((row l[j / k])[j % k]'(by rw [h.rl]; exact hc)) := List.getElem?_eq_getElem _
  obtain ⟨y, g1, g2, g3⟩ := h4 (j / k) _ (j % k) _ (by rw [List.getElem?_map, hx]; rfl) hv
  have hy := h.fr N w S β _ _ _ _ hv g3
  rw [hsum] at g1
  have e1 : (flatK enc k l.toArray)[j]! = y := by
    rw [get_flatK _ _ _ _ hj]
    have : l.toArray[j / k]! = l[j / k] := by simp [getElem!_pos, hi]
    rw [this]
    simp [List.getElem!_eq_getElem?_getD, hy]
  rw [e1, Nat.zero_add]
  refine ⟨?_, ?_⟩
  · unfold World.cell?
    simp only [h1]
    simpa using g1
  · unfold World.frozen?
    simp only [h1]
    have := (h2 j (by simpa using hj')).2
    simp only [Bool.and_eq_false_iff, decide_eq_false_iff_not]
    omega
theorem RowEnc.blk (h : RowEnc k row enc) {d : Array α} (hne : 0 < d.size) (hH : HoldsK enc k w b 0 d) : BlkR N w S β (.arr k (d.toList.map row)) b := by
  have hcell : ∃ (cells : Array Value) (T : TypeId) (fz : Nat × Nat), w.heap[b]? = some (.cells cells T fz) := by
    have h0 := (hH 0 (by rw [size_flatK]; exact Nat.mul_pos hne h.pos)).1
    unfold World.cell? at h0
    simp only at h0
    split at h0
    · rename_i c e f hq; exact ⟨c, e, f, hq⟩
    · cases h0
  obtain ⟨cells, T, fz, h1⟩ := hcell
  have hget : ∀ j, j < d.size * k → cells[j]? = some ((flatK enc k d)[j]!) ∧ ¬ (fz.1 ≤ j ∧ j < fz.2) := fun j hj => by
    obtain ⟨g1, g2⟩ := hH j (by rw [size_flatK]; exact hj)
    unfold World.cell? at g1
    unfold World.frozen? at g2
    simp only [h1, Nat.zero_add] at g1 g2
    refine ⟨by simpa using g1, fun ⟨a, b⟩ => ?_⟩
    simp [a, b] at g2
  refine ⟨cells, T, fz, h1, fun o ho => ?_, fun i r hr => ?_, fun i r j x hr hx => ?_⟩
  · obtain ⟨g1, g2⟩ := hget o (by simpa using ho)
    exact ⟨(Array.getElem?_eq_some_iff.1 g1).1, g2⟩
  · rw [List.getElem?_map, Option.map_eq_some_iff] at hr
    obtain ⟨x, _, rfl⟩ := hr
    exact h.rl x
  · rw [List.getElem?_map, Option.map_eq_some_iff] at hr
    obtain ⟨z, hz, rfl⟩ := hr
    have hi : i < d.size := by have := (List.getElem?_eq_some_iff.1 hz).1; simpa using this
    have hj : j < k := by have := (List.getElem?_eq_some_iff.1 hx).1; rwa [h.rl] at this
    have hlt : i * k + j < d.size * k := by
      have := Nat.mul_le_mul_right k (show i + 1 ≤ d.size from hi); rw [Nat.add_mul, Nat.one_mul] at this; omega
    have hy : (enc z)[j]? = some ((enc z)[j]'(by rw [h.el]; exact hj)) := List.getElem?_eq_getElem _
    have hz' : d[i]! = z := by
      have : d[i]? = some z := by simpa using hz
      rw [getElem!_pos d i hi]
      exact (Array.getElem?_eq_some_iff.1 this).2
    have e1 : (flatK enc k d)[i * k + j]! = (enc z)[j]'(by rw [h.el]; exact hj) := by
      rw [get_flatK _ _ _ _ hlt, (blk_iff k i _ h.pos).1 ⟨by omega, by omega⟩, show (i * k + j) % k = j by rw [Nat.mul_comm, Nat.mul_add_mod, Nat.mod_eq_of_lt hj], hz']
      simp [List.getElem!_eq_getElem?_getD, hy]
    refine ⟨_, (hget _ hlt).1, ?_, ?_⟩
    · rw [e1]; exact h.one z _ (List.getElem_mem _)
    · rw [e1]; exact h.to N w S β z j x _ hx hy
theorem sortW_heap (n : Nat) (d : Array α) (os : Array Obj) : (sortWorldK enc k w b 0 n d os).heap = (w.heap.modify b (onCells (putCells id 0 (flatK enc k d)))) ++ os := rfl
theorem sortW_other {n : Nat} {d : Array α} {os : Array Obj} {c : Nat} (hc : c < w.heap.size) (hne : c ≠ b) : (sortWorldK enc k w b 0 n d os).heap[c]? = w.heap[c]? := by
  rw [sortW_heap, Array.getElem?_append_left (by simpa using hc), Array.getElem?_modify, if_neg (fun e => hne e.symm)]
theorem sortW_self {n : Nat} {d : Array α} {os : Array Obj} {cells : Array Value} {T : TypeId} {fz : Nat × Nat} (h1 : w.heap[b]? = some (.cells cells T fz)) : ∃ cells' : Array Value, (sortWorldK enc k w b 0 n d os).heap[b]? = some (.cells cells' T fz) ∧ cells'.size = cells.size := by
  have hlt := (Array.getElem?_eq_some_iff.1 h1).1
  refine ⟨putCells id 0 (flatK enc k d) cells, ?_, by simp [putCells]⟩
  rw [sortW_heap, Array.getElem?_append_left (by simpa using hlt), Array.getElem?_modify, if_pos rfl, h1]
  rfl
/-- The block behind the sort. -/
theorem RowEnc.after (h : RowEnc k row enc) {A : Nat → Prop} {l : List α} (hne : 0 < l.length) (hb : β 0 = some b) (hh : HeapR A N w β (Heap.get [some (.arr k (l.map row))])) (n : Nat) (os : Array Obj) {d : Array α} (hs : d.size = l.length) :
    HeapR A N (sortWorldK enc k w b 0 n d os) β (Heap.get [some (.arr k (d.toList.map row))]) ∧ Frm (Live β (Heap.get [some (.arr k (l.map row))])) w (sortWorldK enc k w b 0 n d os) := by
  obtain ⟨b', q1, q2, q3⟩ := hh.at' 0 _ rfl
  rw [hb] at q1; cases q1
  have hH := h.holds q3
  obtain ⟨cells, T, fz, h1, _⟩ := q3
  have hlive : Live β (Heap.get [some (.arr k (l.map row))]) b := ⟨0, by simp [Heap.get], hb⟩
  have hgk : ∀ (x : Blk) a, Heap.get [some x] a = if a = 0 then some x else none := fun x a => by
    unfold Heap.get
    cases a with
    | zero => rfl
    | succ a => rfl
  have hsz : w.heap.size ≤ (sortWorldK enc k w b 0 n d os).heap.size := by rw [sortW_heap]; simp
  have hroom : ∀ c m, Room w c m → Room (sortWorldK enc k w b 0 n d os) c m := fun c m ⟨ce, T', fz', r1, r2, r3⟩ => by
    by_cases e : c = b
    · subst e
      obtain ⟨ce', g1, g2⟩ := sortW_self (enc := enc) (k := k) (n := n) (d := d) (os := os) r1
      exact ⟨ce', T', fz', g1, by omega, r3⟩
    · exact ⟨ce, T', fz', by rw [sortW_other (Array.getElem?_eq_some_iff.1 r1).1 e]; exact r1, r2, r3⟩
  refine ⟨⟨fun a x hx => ?_, fun a a' c h3 h4 h5 h6 => ?_⟩, ⟨rfl, rfl, rfl, hsz, fun c hc hn => sortW_other hc (fun e => by subst e; exact hn hlive), hroom⟩⟩
  · rw [hgk] at hx
    by_cases e : a = 0
    · subst e
      rw [if_pos rfl] at hx
      cases hx
      refine ⟨b, hb, Nat.lt_of_lt_of_le q2 hsz, h.blk (by omega) ?_⟩
      have h0 : HoldsK enc k (Go.Sort.ahead w n) b 0 l.toArray := hH
      have h2 := holdsK_putRowK enc k (Go.Sort.ahead w n) b 0 l.toArray d h0 (by simpa using hs)
      exact holdsK_grow enc k _ os b 0 d (by show b < (w.heap.modify b _).size; simpa using q2) h2
    · rw [if_neg e] at hx; cases hx
  · rw [hgk] at h3 h4
    by_cases e : a = 0
    · by_cases e' : a' = 0
      · rw [e, e']
      · rw [if_neg e'] at h4; exact absurd rfl h4
    · rw [if_neg e] at h3; exact absurd rfl h3
end
end Go.Proofs.YtncdaicaljpgfaaGreat
set_option linter.unusedVariables false
namespace Go.Proofs.YtncdaicaljpgfaaGreat
open Go.Sort Go.Shelf
def prow (p : Int × Int) : List V := [.int .i64 p.1, .int .i64 p.2]
def penc (p : Int × Int) : List Value := [.int .i64 p.1, .int .i64 p.2]
theorem prow_enc : RowEnc 2 prow penc where
  pos := by decide
  rl := fun _ => rfl
  el := fun _ => rfl
  one := fun x v hv => by
    unfold penc at hv
    rcases List.mem_cons.1 hv with rfl | hv
    · rfl
    · rcases List.mem_cons.1 hv with rfl | hv
      · rfl
      · cases hv
  to := fun N w S β x i c y hc hy => by
    match i with
    | 0 => simp [prow, penc] at hc hy; subst hc hy; exact .int _ _ _
    | 1 => simp [prow, penc] at hc hy; subst hc hy; exact .int _ _ _
    | n + 2 => simp [prow] at hc
  fr := fun N w S β x i c y hc hr => by
    match i with
    | 0 => simp [prow] at hc; subst hc; cases hr; rfl
    | 1 => simp [prow] at hc; subst hc; cases hr; rfl
    | n + 2 => simp [prow] at hc
/-- What SortFunc leaves: the same rows, in order. -/
def sortP (cf : Int × Int → Int × Int → Int) (l : List (Int × Int)) (r : V) (H' : Heap) : Prop := r = .tup [] ∧ ∃ m : List (Int × Int), l.Perm m ∧ m.Pairwise (fun x y => ¬ cf y x < 0) ∧ H' = [some (.arr 2 (m.map prow))]
theorem sort_runs {C : Ctx} {ρ : Ren} (Ly : SlLaysF0.n6 C.T.P ρ) (aE : ∀ w, (isAgg (ρ.t 24)).run C.T.P w = .ok true w) (zE : ∀ w, (Go.sizeOf (ρ.t 24)).run C.T.P w = .ok 2 w) {cf : Int × Int → Int × Int → Int} (hO : SWO (ltOf cf)) {fc : FuncId} {kc : Nat} (hkc : C.N.ν kc = some fc)
    (eg : ∀ args w, (callFunc fc args).run C.T.P w = .ok (.enter fc args) w) (hcmp : ∀ blk off size w, CmpLays C.T.P fc #[] penc 2 cf blk off size w) {l : List (Int × Int)} (hne : 0 < l.length) (hlen : l.length < 4611686018427387904) {c : Option Nat}
    {A : Nat → Prop} {w : World} {β : Nat → Option Nat} {vs : Array Value} (hd : ∀ a, 1 ≤ a → β a = none) (hh : HeapR A C.N w β (Heap.get [some (.arr 2 (l.map prow))])) (ha : RArgs C w (Imm A w β (Heap.get [some (.arr 2 (l.map prow))])) β [.ref 0 2 0 l.length c, .fn kc [] []] vs) :
    Calls C.T.P (ρ.f 6) vs w fun e w' => ∃ v r H' β', e = .returned v ∧ sortP cf l r H' ∧ [some (Blk.arr 2 (l.map prow))].length ≤ H'.length ∧ (∀ a, H'.length ≤ a → β' a = none) ∧ (∀ a, a < [some (Blk.arr 2 (l.map prow))].length → β' a = β a) ∧ HeapR A C.N w' β' (Heap.get H') ∧ Rel C.N w' (Imm A w' β' (Heap.get H')) β' r v ∧
      (∀ b, Live β' (Heap.get H') b → w.heap.size ≤ b ∨ Live β (Heap.get [some (.arr 2 (l.map prow))]) b) ∧ Frm (Live β (Heap.get [some (.arr 2 (l.map prow))])) w w' := by
  obtain ⟨hn, har⟩ := ha
  have hsz : vs.size = 2 := hn
  have h0 := har 0 _ vs[0] rfl (by simp [hsz])
  have h1 := har 1 _ vs[1] rfl (by simp [hsz])
  generalize hv0 : vs[0] = v0 at h0
  generalize hv1 : vs[1] = v1 at h1
  obtain rfl : vs = #[v0, v1] := by
    apply Array.ext
    · simp [hsz]
    · intro i h1 h2
      match i with
      | 0 => simpa using hv0
      | 1 => simpa using hv1
      | n + 2 => simp at h2; omega
  cases h0 with
  | ref _ _ _ _ _ _ b x cc hb hc hlc hx hm hnn =>
    cases h1 with
    | fn _ _ fid hf _ _ ys zs e1 e2 hy hz =>
      rw [hkc] at hf; cases hf
      obtain rfl : ys = #[] := Array.eq_empty_of_size_eq_zero (by simpa using e1)
      obtain rfl : zs = #[] := Array.eq_empty_of_size_eq_zero (by simpa using e2)
      have hx' : x = some ⟨b, 0, none⟩ := by
        rcases hx with h | h
        · omega
        · simpa using h
      subst hx'
      obtain ⟨b', q1, q2, q3⟩ := hh.at' 0 _ rfl
      rw [hb] at q1; cases q1
      have hH := prow_enc.holds q3
      have hrun := AnyQ.slices_SortFunc Ly 2 aE zE penc prow_enc.el prow_enc.one cf hO fc #[] b 0 cc l.toArray w eg (hcmp b 0 _ w) hH q2 (by simpa using hlen)
      have hlt : l.toArray.size = l.length := by simp
      rw [hlt] at hrun
      refine Calls.mono hrun ?_
      rintro e w' ⟨rfl, d', n, os, hp, hs, rfl⟩
      have hd' : d'.size = l.length := by rw [hp.1]; simp
      obtain ⟨g1, g2⟩ := prow_enc.after hne hb hh n os hd'
      refine ⟨_, .tup [], _, β, rfl, ⟨rfl, d'.toList, ?_, ?_, rfl⟩, Nat.le_refl _, hd, fun _ _ => rfl, g1, .tup _ [] #[] rfl (fun i c y hc => by simp at hc), fun b' ⟨a, h3, h4⟩ => .inr ⟨a, ?_, h4⟩, g2⟩
      · have h2 := hp.2.2
        rw [show d'.extract 0 l.length = d' by rw [← hd']; simp, show l.toArray.extract 0 l.length = l.toArray by rw [← hlt]; simp] at h2
        exact h2.symm
      · rw [List.pairwise_iff_getElem]
        intro i j hi hj hij
        have hj' : j < d'.size := by simpa using hj
        have hi' : i < d'.size := by simpa using hi
        have := hs i j (Nat.zero_le _) hij (by omega)
        rw [getElem!_pos d' j hj', getElem!_pos d' i hi'] at this
        unfold ltOf at this
        simpa using this
      · unfold Heap.get at h3 ⊢
        cases a with
        | zero => simp
        | succ a => simp at h3
end Go.Proofs.YtncdaicaljpgfaaGreat
