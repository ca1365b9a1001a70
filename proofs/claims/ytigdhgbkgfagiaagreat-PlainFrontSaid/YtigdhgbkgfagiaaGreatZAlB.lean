/- AL: how abstract values and blocks stand to the model's values and memory; the kinds of change of memory. -/
import Derived.Test.YtigdhgbkgfagiaaGreatZAlA
import Derived.Below
import Derived.Laws.Rows
import Derived.Laws.Tables
set_option linter.unusedVariables false
namespace Go.Proofs.YtigdhgbkgfagiaaGreat
structure Nums where
 ν : Nat → Option FuncId
 τ : Nat → Option TypeId
 κ : Nat → Code → AC → Prop
def Room (w : World) (b m : Nat) : Prop := ∃ (cells : Array Value) (T : TypeId) (fz : Nat × Nat), w.heap[b]? = some (.cells cells T fz) ∧ m ≤ cells.size ∧ ∀ k, k < m → ¬ (fz.1 ≤ k ∧ k < fz.2)
inductive Rel (N : Nums) (w : World) (S : Nat → Prop) : (Nat → Option Nat) → V → Value → Prop where
 | int (β : Nat → Option Nat) (k : IntKind) (n : Int) : Rel N w S β (.int k n) (.int k n)
 | bool (β : Nat → Option Nat) (b : Bool) : Rel N w S β (.bool b) (.bool b)
 | str (β : Nat → Option Nat) (s : ByteArray) : Rel N w S β (.str s.data.toList) (.string s)
 | agg (β : Nat → Option Nat) (cs : List V) (ys : Array Value) (hl : ys.size = cs.length) (h1 : ∀ (i : Nat) (y : Value), ys[i]? = some y → y.oneCell' = true) (h : ∀ (i : Nat) (c : V) (y : Value), cs[i]? = some c → ys[i]? = some y → Rel N w S β c y) : Rel N w S β (.agg cs) (.agg ys)
 | lst (β : Nat → Option Nat) (size : Nat) (rows : List (List V)) (cap : Option Nat) (a : Option Addr) (c : Nat) (b off : Nat) (ys : Nat → Nat → Value)
     (hc : ∀ k, cap = some k → c = k) (hlc : rows.length ≤ c) (ha : 0 < rows.length → a = some ⟨b, off, none⟩ ∧ S b) (hn : a = none → c = 0)
     (hr : ∀ (i : Nat) (row : List V), rows[i]? = some row → row.length = size)
     (hy : ∀ (i : Nat) (row : List V) (j : Nat) (x : V), rows[i]? = some row → row[j]? = some x → w.cell? ⟨b, off + i * size + j, none⟩ = some (ys i j) ∧ (ys i j).oneCell' = true)
     (h : ∀ (i : Nat) (row : List V) (j : Nat) (x : V), rows[i]? = some row → row[j]? = some x → Rel N w S (fun _ => none) x (ys i j)) (hz : (size = 0 → rows.length = 0 → a = none) ∧ (size = 1000003 → rows.length = 0 → a ≠ none)) : Rel N w S β (.lst size rows cap) (.slice a rows.length c)
 | iptr (β : Nat → Option Nat) (size : Nat) (rows : List (List V)) (i o : Nat) (b off : Nat) (ys : Nat → Nat → Value) (hS : S b)
     (hr : ∀ (i : Nat) (row : List V), rows[i]? = some row → row.length = size)
     (hy : ∀ (i : Nat) (row : List V) (j : Nat) (x : V), rows[i]? = some row → row[j]? = some x → w.cell? ⟨b, off + i * size + j, none⟩ = some (ys i j) ∧ (ys i j).oneCell' = true)
     (h : ∀ (i : Nat) (row : List V) (j : Nat) (x : V), rows[i]? = some row → row[j]? = some x → Rel N w S (fun _ => none) x (ys i j)) : Rel N w S β (.iptr size rows i o) (.pointer (some ⟨b, off + i * size + o, none⟩))
 | ref (β : Nat → Option Nat) (a size off len : Nat) (cap : Option Nat) (b : Nat) (x : Option Addr) (c : Nat) (hb : β a = some b) (hc : ∀ k, cap = some k → c = k) (hlc : len ≤ c)
     (hx : c = 0 ∨ x = some ⟨b, off * size, none⟩) (hm : c ≠ 0 → Room w b ((off + c) * size)) (hnn : x ≠ none) : Rel N w S β (.ref a size off len cap) (.slice x len c)
 | ptr (β : Nat → Option Nat) (a size i o : Nat) (b : Nat) (hb : β a = some b) : Rel N w S β (.ptr a size i o) (.pointer (some ⟨b, i * size + o, none⟩))
 | nilp (β : Nat → Option Nat) : Rel N w S β .nilp (.pointer none)
 | fn (β : Nat → Option Nat) (f : Nat) (fid : FuncId) (hf : N.ν f = some fid) (first caps : List V) (ys zs : Array Value) (h1 : ys.size = first.length) (h2 : zs.size = caps.length)
     (hy : ∀ (i : Nat) (c : V) (y : Value), first[i]? = some c → ys[i]? = some y → Rel N w S β c y) (hz : ∀ (i : Nat) (c : V) (y : Value), caps[i]? = some c → zs[i]? = some y → Rel N w S β c y) : Rel N w S β (.fn f first caps) (.func (.func fid) ys zs)
 | nilf (β : Nat → Option Nat) : Rel N w S β .nilf .nilFunc
 | iface (β : Nat → Option Nat) (t : Nat) (T : TypeId) (ht : N.τ t = some T) (v : V) (y : Value) (h : Rel N w S β v y) : Rel N w S β (.iface t v) (.iface T y)
 | nili (β : Nat → Option Nat) : Rel N w S β .nili .nilIface
 | tup (β : Nat → Option Nat) (cs : List V) (ys : Array Value) (hl : ys.size = cs.length) (h : ∀ (i : Nat) (c : V) (y : Value), cs[i]? = some c → ys[i]? = some y → Rel N w S β c y) : Rel N w S β (.tup cs) (.tuple ys)
 | bot (β : Nat → Option Nat) (y : Value) (hy : y.oneCell' = true) : Rel N w S β .bot y
 | yld (β : Nat → Option Nat) (a b : Nat) (hb : β a = some b) : Rel N w S β (.yld a) (.func (.yield b) #[] #[])
 | mapp (β : Nat → Option Nat) (a b : Nat) (hb : β a = some b) : Rel N w S β (.mapp a) (.map (some b))
 | nilm (β : Nat → Option Nat) : Rel N w S β .nilm (.map none)
theorem cell_same {w w' : World} {b : Nat} (h : w'.heap[b]? = w.heap[b]?) (o : Nat) : w'.cell? ⟨b, o, none⟩ = w.cell? ⟨b, o, none⟩ := by
 unfold World.cell?; simp only; rw [h]
theorem Rel.mono {N : Nums} {w w' : World} {S S' : Nat → Prop} (hS : ∀ b, S b → S' b) (hw : ∀ b, S b → w'.heap[b]? = w.heap[b]?) (hm : ∀ b m, Room w b m → Room w' b m) {β : Nat → Option Nat} {v : V} {x : Value} (h : Rel N w S β v x) :
    ∀ {β' : Nat → Option Nat}, (∀ a b, β a = some b → β' a = some b) → Rel N w' S' β' v x := by
 induction h with
 | int β k n => exact fun _ => .int _ k n
 | bool β b => exact fun _ => .bool _ b
 | str β s => exact fun _ => .str _ s
 | agg β cs ys hl h1 h ih => exact fun hb => .agg _ cs ys hl h1 fun i c y hc hy => ih i c y hc hy hb
 | lst β size rows cap a c b off ys hc hlc ha hn hr hy h hz ih =>
  refine fun _ => .lst _ size rows cap a c b off ys hc hlc (fun h0 => ⟨(ha h0).1, hS _ (ha h0).2⟩) hn hr (fun i row j x h1 h2 => ?_) (fun i row j x h1 h2 => ih i row j x h1 h2 (fun _ _ h => h)) hz
  have h0 : 0 < rows.length := by have := (List.getElem?_eq_some_iff.1 h1).1; omega
  rw [cell_same (hw b (ha h0).2)]
  exact hy i row j x h1 h2
 | iptr β size rows i o b off ys hSb hr hy h ih =>
  refine fun _ => .iptr _ size rows i o b off ys (hS _ hSb) hr (fun i row j x h1 h2 => ?_) (fun i row j x h1 h2 => ih i row j x h1 h2 (fun _ _ h => h))
  rw [cell_same (hw b hSb)]
  exact hy i row j x h1 h2
 | ref β a size off len cap b x c hb hc hlc hx hr hnn => exact fun hβ => .ref _ a size off len cap b x c (hβ _ _ hb) hc hlc hx (fun h0 => hm _ _ (hr h0)) hnn
 | ptr β a size i o b hb => exact fun hβ => .ptr _ a size i o b (hβ _ _ hb)
 | nilp β => exact fun _ => .nilp _
 | fn β f fid hf first caps ys zs h1 h2 hy hz ih1 ih2 => exact fun hβ => .fn _ f fid hf first caps ys zs h1 h2 (fun i c y hc hy => ih1 i c y hc hy hβ) (fun i c y hc hy => ih2 i c y hc hy hβ)
 | nilf β => exact fun _ => .nilf _
 | iface β t T ht v y h ih => exact fun hβ => .iface _ t T ht v y (ih hβ)
 | nili β => exact fun _ => .nili _
 | tup β cs ys hl h ih => exact fun hb => .tup _ cs ys hl fun i c y hc hy => ih i c y hc hy hb
 | bot β y hy => exact fun _ => .bot _ y hy
 | yld β a b hb => exact fun hβ => .yld _ a b (hβ _ _ hb)
 | mapp β a b hb => exact fun hβ => .mapp _ a b (hβ _ _ hb)
 | nilm β => exact fun _ => .nilm _
theorem Rel.one {N : Nums} {w : World} {S : Nat → Prop} {β : Nat → Option Nat} {v : V} {x : Value} (h : Rel N w S β v x) (hv : v.one = true) : x.oneCell' = true := by
 cases h <;> first | rfl | assumption | (simp [V.one] at hv)
theorem Rel.cells {N : Nums} {w : World} {S : Nat → Prop} {β : Nat → Option Nat} {v : V} {x : Value} (h : Rel N w S β v x) (hv : v.isVal = true) :
    x.cells.size = v.cells.length ∧ (∀ (i : Nat) (y : Value), x.cells[i]? = some y → y.oneCell' = true) ∧ ∀ (i : Nat) (c : V) (y : Value), v.cells[i]? = some c → x.cells[i]? = some y → Rel N w S β c y := by
 have hone : ∀ (v : V) (x : Value), x.oneCell' = true → x.cells = #[x] → v.cells = [v] → Rel N w S β v x → x.cells.size = v.cells.length ∧ (∀ (i : Nat) (y : Value), x.cells[i]? = some y → y.oneCell' = true) ∧ ∀ (i : Nat) (c : V) (y : Value), v.cells[i]? = some c → x.cells[i]? = some y → Rel N w S β c y := by
  intro v x h1 h2 h3 h4
  rw [h2, h3]
  refine ⟨rfl, fun i y hy => ?_, fun i c y hc hy => ?_⟩
  ·cases i with
   | zero => simp at hy; subst hy; exact h1
   | succ i => simp at hy
  ·cases i with
   | zero => simp at hc hy; subst hc; subst hy; exact h4
   | succ i => simp at hc
 cases h with
 | agg _ cs ys hl h1 h => exact ⟨by simpa [Value.cells, V.cells] using hl, by simpa [Value.cells] using h1, by simpa [Value.cells, V.cells] using h⟩
 | tup _ cs ys hl h => simp [V.isVal] at hv
 | bot _ _ hy => exact hone _ _ hy (by cases x <;> first | rfl | (simp [Value.oneCell'] at hy)) rfl (.bot _ _ hy)
 | int _ k n => exact hone _ _ rfl rfl rfl (.int _ k n)
 | bool _ b => exact hone _ _ rfl rfl rfl (.bool _ b)
 | str _ b => exact hone _ _ rfl rfl rfl (.str _ b)
 | lst _ size rows cap a c b off ys hc hlc ha hn hr hy h hz => exact hone _ _ rfl rfl rfl (.lst _ size rows cap a c b off ys hc hlc ha hn hr hy h hz)
 | iptr _ size rows i o b off ys hS hr hy h => exact hone _ _ rfl rfl rfl (.iptr _ size rows i o b off ys hS hr hy h)
 | ref _ a size off len cap b x c hb hc hlc hx hm hnn => exact hone _ _ rfl rfl rfl (.ref _ a size off len cap b x c hb hc hlc hx hm hnn)
 | ptr _ a size i o b hb => exact hone _ _ rfl rfl rfl (.ptr _ a size i o b hb)
 | nilp => exact hone _ _ rfl rfl rfl (.nilp _)
 | fn _ f fid hf first caps ys zs h1 h2 hy hz => exact hone _ _ rfl rfl rfl (.fn _ f fid hf first caps ys zs h1 h2 hy hz)
 | nilf => exact hone _ _ rfl rfl rfl (.nilf _)
 | iface _ t T ht v y h => exact hone _ _ rfl rfl rfl (.iface _ t T ht v y h)
 | nili => exact hone _ _ rfl rfl rfl (.nili _)
 | yld _ a b hb => exact hone _ _ rfl rfl rfl (.yld _ a b hb)
 | mapp _ a b hb => exact hone _ _ rfl rfl rfl (.mapp _ a b hb)
 | nilm => exact hone _ _ rfl rfl rfl (.nilm _)
def JumpR : AC → Code → Prop
 | .ret, c => c = .ret
 | .exit id, c => c = .exit id
 | _, _ => False
def BlkR (N : Nums) (w : World) (S : Nat → Prop) (β : Nat → Option Nat) : Blk → Nat → Prop
 | .arr size rows, b => ∃ (cells : Array Value) (T : TypeId) (fz : Nat × Nat), w.heap[b]? = some (.cells cells T fz) ∧ (∀ o, o < rows.length * size → o < cells.size ∧ ¬ (fz.1 ≤ o ∧ o < fz.2)) ∧
     (∀ (i : Nat) (row : List V), rows[i]? = some row → row.length = size) ∧
     ∀ (i : Nat) (row : List V) (j : Nat) (x : V), rows[i]? = some row → row[j]? = some x → ∃ y, cells[i * size + j]? = some y ∧ y.oneCell' = true ∧ Rel N w S β x y
 | .loop nt E ps ad body, b => ∃ r : Loop, w.heap[b]? = some (.loop r) ∧ r.state = .ready ∧ r.pending = none ∧ N.κ nt r.assign ad ∧ N.κ nt r.body body ∧ r.params.toList = ps ∧ r.tmps.size = nt ∧
     ∀ (t : Nat) (v : V), Env.get E t = some v → ∃ x, r.tmps[t]? = some x ∧ Rel N w S β v x
 | .stop j, b => ∃ r : Loop, w.heap[b]? = some (.loop r) ∧ r.state = .done ∧ ∃ c, r.pending = some c ∧ JumpR j c
 | .map es bs clk, b => ∃ (a : Array MapEntry), w.heap[b]? = some (.map a clk) ∧ a.size = es.length ∧ a.toList.map (·.born) = bs ∧
     ∀ (i : Nat) (p : V × V) (e : MapEntry), es[i]? = some p → a[i]? = some e → Rel N w S β p.1 e.key ∧ Rel N w S β p.2 e.val
 | .iter m since seen last, b => ∃ q, w.heap[b]? = some (.mapIter q since seen.toArray last) ∧ match m with | none => q = none | some a => ∃ c, β a = some c ∧ q = some c
 | .siter s pos, b => ∃ t : ByteArray, w.heap[b]? = some (.stringIter t pos) ∧ t.data.toList = s
 | .junk, b => ∃ o, w.heap[b]? = some o ∧ ∀ d, o ≠ .deferred d
theorem BlkR.mono {N : Nums} {w w' : World} {S S' : Nat → Prop} {β β' : Nat → Option Nat} {k : Blk} {b : Nat} (h : BlkR N w S β k b) (hb : w'.heap[b]? = w.heap[b]?) (hS : ∀ b, S b → S' b) (hw : ∀ b, S b → w'.heap[b]? = w.heap[b]?) (hm : ∀ b m, Room w b m → Room w' b m)
    (hβ : ∀ a b, β a = some b → β' a = some b) : BlkR N w' S' β' k b := by
 cases k with
 | arr size rows =>
  obtain ⟨cells, T, fz, h1, h2, h3, h4⟩ := h
  exact ⟨cells, T, fz, hb.trans h1, h2, h3, fun i row j x hi hj => let ⟨y, hy, h1, hr⟩ := h4 i row j x hi hj; ⟨y, hy, h1, hr.mono hS hw hm hβ⟩⟩
 | loop nt E ps ad body =>
  obtain ⟨r, h1, h2, h3, h4, h5, h6, h7, h8⟩ := h
  exact ⟨r, hb.trans h1, h2, h3, h4, h5, h6, h7, fun t v hv => let ⟨x, hx, hr⟩ := h8 t v hv; ⟨x, hx, hr.mono hS hw hm hβ⟩⟩
 | stop j =>
  obtain ⟨r, h1, h2⟩ := h
  exact ⟨r, hb.trans h1, h2⟩
 | map es bs clk =>
  obtain ⟨a, h1, h2, hbs, h3⟩ := h
  exact ⟨a, hb.trans h1, h2, hbs, fun i p e hi he => ⟨(h3 i p e hi he).1.mono hS hw hm hβ, (h3 i p e hi he).2.mono hS hw hm hβ⟩⟩
 | iter m since seen last =>
  obtain ⟨q, h1, h2⟩ := h
  refine ⟨q, hb.trans h1, ?_⟩
  cases m with
  | none => exact h2
  | some a => obtain ⟨c, h3, h4⟩ := h2; exact ⟨c, hβ _ _ h3, h4⟩
 | siter s pos =>
  obtain ⟨t, h1, h2⟩ := h
  exact ⟨t, hb.trans h1, h2⟩
 | junk =>
  obtain ⟨o, h1, h2⟩ := h
  exact ⟨o, hb.trans h1, h2⟩
theorem BlkR.obj {N : Nums} {w : World} {S : Nat → Prop} {β : Nat → Option Nat} {k : Blk} {b : Nat} (h : BlkR N w S β k b) : ∃ o, w.heap[b]? = some o ∧ ∀ d, o ≠ .deferred d := by
 cases k with
 | arr size rows => obtain ⟨cells, T, fz, h1, _⟩ := h; exact ⟨_, h1, fun d e => by cases e⟩
 | loop nt E ps ad body => obtain ⟨r, h1, _⟩ := h; exact ⟨_, h1, fun d e => by cases e⟩
 | stop j => obtain ⟨r, h1, _⟩ := h; exact ⟨_, h1, fun d e => by cases e⟩
 | map es bs clk => obtain ⟨a, h1, _⟩ := h; exact ⟨_, h1, fun d e => by cases e⟩
 | iter m since seen last => obtain ⟨q, h1, _⟩ := h; exact ⟨_, h1, fun d e => by cases e⟩
 | siter s pos => obtain ⟨t, h1, _⟩ := h; exact ⟨_, h1, fun d e => by cases e⟩
 | junk => exact h
def Live (β : Nat → Option Nat) (h : Nat → Option Blk) (b : Nat) : Prop := ∃ a, h a ≠ none ∧ β a = some b
structure Imm (A : Nat → Prop) (w : World) (β : Nat → Option Nat) (h : Nat → Option Blk) (b : Nat) : Prop where
 lt : b < w.heap.size
 free : ¬ Live β h b
 al : A b
 arr : ∃ (cells : Array Value) (T : TypeId) (fz : Nat × Nat), w.heap[b]? = some (.cells cells T fz)
structure HeapR (A : Nat → Prop) (N : Nums) (w : World) (β : Nat → Option Nat) (h : Nat → Option Blk) : Prop where
 at' : ∀ a k, h a = some k → ∃ b, β a = some b ∧ b < w.heap.size ∧ BlkR N w (Imm A w β h) β k b
 inj : ∀ a a' b, h a ≠ none → h a' ≠ none → β a = some b → β a' = some b → a = a'
structure Frm (L : Nat → Prop) (w w' : World) : Prop where
 os : w'.os = w.os
 tape : w'.tape = w.tape
 output : w'.output = w.output
 size : w.heap.size ≤ w'.heap.size
 block : ∀ b, b < w.heap.size → ¬ L b → w'.heap[b]? = w.heap[b]?
 room : ∀ b m, Room w b m → Room w' b m
theorem Frm.refl (L : Nat → Prop) (w : World) : Frm L w w := ⟨rfl, rfl, rfl, Nat.le_refl _, fun _ _ _ => rfl, fun _ _ h => h⟩
theorem Frm.trans {L L' : Nat → Prop} {a b c : World} (h : Frm L a b) (k : Frm L' b c) (hL : ∀ x, L' x → a.heap.size ≤ x ∨ L x) : Frm L a c :=
 ⟨k.os.trans h.os, k.tape.trans h.tape, k.output.trans h.output, Nat.le_trans h.size k.size, fun x hx hn => (k.block x (Nat.lt_of_lt_of_le hx h.size) (fun hl => (hL x hl).elim (by omega) hn)).trans (h.block x hx hn), fun b m hb => k.room b m (h.room b m hb)⟩
def Eff.heap (e : Eff) (n : Nat) (h : Nat → Option Blk) (a : Nat) : Option Blk :=
 if n ≤ a ∧ a < n + e.new.length then e.new[a - n]? else (match e.upd.find? (fun p => p.1 == a) with | some p => p.2 | none => h a)
def EffOk (A : Nat → Prop) (N : Nums) (w : World) (β : Nat → Option Nat) (h : Nat → Option Blk) (n : Nat) (e : Eff) (x : Value) (w' : World) : Prop :=
 ∃ β' : Nat → Option Nat, (∀ a, ¬ (n ≤ a ∧ a < n + e.new.length) → β' a = β a) ∧ HeapR A N w' β' (e.heap n h) ∧ Rel N w' (Imm A w' β' (e.heap n h)) β' e.v x ∧
  (∀ b, Live β' (e.heap n h) b → w.heap.size ≤ b ∨ Live β h b) ∧ Frm (Live β h) w w'
theorem Eff.heap_none {e : Eff} {n : Nat} {h : Nat → Option Blk} (h1 : e.upd = []) (h2 : e.new = []) : e.heap n h = h := by
 funext a; simp [Eff.heap, h1, h2]; intro h3 h4; omega
theorem effOk_same {A : Nat → Prop} {N : Nums} {w : World} {β : Nat → Option Nat} {h : Nat → Option Blk} {n : Nat} {e : Eff} {x : Value} {w' : World} (hh : HeapR A N w β h) (h1 : e.upd = []) (h2 : e.new = []) (hw : w'.heap = w.heap) (ho : w'.os = w.os) (ht : w'.tape = w.tape) (hp : w'.output = w.output)
    (hr : Rel N w (Imm A w β h) β e.v x) : EffOk A N w β h n e x w' := by
 have hi : ∀ b, Imm A w β h b → Imm A w' β h b := fun b hb => ⟨by rw [hw]; exact hb.lt, hb.free, hb.al, by rw [hw]; exact hb.arr⟩
 have hroom : ∀ b m, Room w b m → Room w' b m := fun b m hm => by unfold Room; rw [hw]; exact hm
 refine ⟨β, fun _ _ => rfl, ?_, ?_, ?_, ⟨ho, ht, hp, by rw [hw]; exact Nat.le_refl _, fun b _ _ => by rw [hw], hroom⟩⟩
 ·rw [Eff.heap_none h1 h2]
  exact ⟨fun a k hk => let ⟨b, h3, h4, h5⟩ := hh.at' a k hk; ⟨b, h3, by rw [hw]; exact h4, h5.mono (by rw [hw]) hi (fun _ _ => by rw [hw]) hroom (fun _ _ h => h)⟩, hh.inj⟩
 ·rw [Eff.heap_none h1 h2]
  exact hr.mono hi (fun _ _ => by rw [hw]) hroom (fun _ _ h => h)
 ·rw [Eff.heap_none h1 h2]
  exact fun b hb => .inr hb
theorem effOk_new {A : Nat → Prop} {N : Nums} {w : World} {β : Nat → Option Nat} {h : Nat → Option Blk} {n : Nat} {e : Eff} {x : Value} {w' : World} {o : Obj} {k : Blk} (hh : HeapR A N w β h) (hn : β n = none) (hhn : h n = none) (h1 : e.upd = []) (h2 : e.new = [k])
    (hw : w'.heap = w.heap.push o) (ho : w'.os = w.os) (ht : w'.tape = w.tape) (hp : w'.output = w.output)
    (hk : ∀ (β' : Nat → Option Nat) (S : Nat → Prop), (∀ a b, β a = some b → β' a = some b) → β' n = some w.heap.size → (∀ b, Imm A w β h b → S b) → BlkR N w' S β' k w.heap.size)
    (hr : ∀ (β' : Nat → Option Nat) (S : Nat → Prop), (∀ a b, β a = some b → β' a = some b) → β' n = some w.heap.size → (∀ b, Imm A w β h b → S b) → Rel N w' S β' e.v x) : EffOk A N w β h n e x w' := by
 have hβ : ∀ a b, β a = some b → (fun a => if a = n then some w.heap.size else β a) a = some b := fun a b hb => by
  by_cases ha : a = n
  ·subst ha; rw [hn] at hb; cases hb
  ·simp [ha, hb]
 have hheap : ∀ a, e.heap n h a = if a = n then some k else h a := fun a => by
  unfold Eff.heap
  rw [h1, h2]
  by_cases ha : a = n
  ·subst ha; simp
  ·rw [if_neg (by simp; omega), if_neg ha]; rfl
 have hold : ∀ b, b < w.heap.size → w'.heap[b]? = w.heap[b]? := fun b hb => by rw [hw, Array.getElem?_push, if_neg (by omega)]
 have hroom : ∀ b m, Room w b m → Room w' b m := fun b m hm => by
  obtain ⟨cells, T, fz, h1, h2⟩ := hm
  exact ⟨cells, T, fz, by rw [hold b (Array.getElem?_eq_some_iff.1 h1).1]; exact h1, h2⟩
 have hlive : ∀ b, Live (fun a => if a = n then some w.heap.size else β a) (e.heap n h) b → b = w.heap.size ∨ Live β h b := fun b ⟨a, ha, hb⟩ => by
  rw [hheap] at ha
  by_cases han : a = n
  ·simp [han] at hb; exact .inl hb.symm
  ·simp only [han, if_false] at ha hb; exact .inr ⟨a, ha, hb⟩
 have himm : ∀ b, Imm A w β h b → Imm A w' (fun a => if a = n then some w.heap.size else β a) (e.heap n h) b := fun b hb =>
  ⟨by rw [hw]; simp; have := hb.lt; omega, fun hl => (hlive b hl).elim (fun e => by have := hb.lt; omega) hb.free, hb.al, by rw [hold b hb.lt]; exact hb.arr⟩
 refine ⟨fun a => if a = n then some w.heap.size else β a, fun a ha => ?_, ⟨fun a k' hk' => ?_, fun a a' b ha ha' hb hb' => ?_⟩, hr _ _ hβ (by simp) himm, fun b hb => (hlive b hb).elim (fun e => .inl (by omega)) .inr, ⟨ho, ht, hp, by rw [hw]; simp, fun b hb _ => hold b hb, hroom⟩⟩
 ·have hne : a ≠ n := fun e => ha ⟨by omega, by rw [h2]; simp; omega⟩
  simp [hne]
 ·rw [hheap] at hk'
  by_cases ha : a = n
  ·rw [if_pos ha] at hk'
   simp only [Option.some.injEq] at hk'
   subst hk'; subst ha
   exact ⟨w.heap.size, by simp, by rw [hw]; simp, hk _ _ hβ (by simp) himm⟩
  ·rw [if_neg ha] at hk'
   obtain ⟨b, h3, h4, h5⟩ := hh.at' a k' hk'
   exact ⟨b, by simp [ha, h3], by rw [hw]; simp; omega, h5.mono (hold b h4) himm (fun b hb => hold b hb.lt) hroom hβ⟩
 ·rw [hheap] at ha ha'
  have hlt : ∀ a b, a ≠ n → h a ≠ none → β a = some b → b < w.heap.size := fun a b hne hl hb => by
   obtain ⟨k', hk'⟩ := Option.ne_none_iff_exists'.1 hl
   obtain ⟨b', h3, h4, _⟩ := hh.at' a k' hk'
   rw [h3] at hb; cases hb; exact h4
  by_cases e1 : a = n <;> by_cases e2 : a' = n
  ·rw [e1, e2]
  ·simp [e1] at hb; simp only [e2, if_false] at ha' hb'; have := hlt a' b e2 ha' hb'; omega
  ·simp [e2] at hb'; simp only [e1, if_false] at ha hb; have := hlt a b e1 ha hb; omega
  ·simp only [e1, e2, if_false] at ha ha' hb hb'; exact hh.inj a a' b ha ha' hb hb'
theorem effOk_upd {A : Nat → Prop} {N : Nums} {w : World} {β : Nat → Option Nat} {h : Nat → Option Blk} {n : Nat} {e : Eff} {x : Value} {w' : World} {a b : Nat} {k k' : Blk} (hh : HeapR A N w β h) (ha : h a = some k) (hb : β a = some b) (h1 : e.upd = [(a, some k')]) (h2 : e.new = [])
    (hw : ∀ c, c ≠ b → w'.heap[c]? = w.heap[c]?) (hroom : ∀ b m, Room w b m → Room w' b m) (hsz : w'.heap.size = w.heap.size) (ho : w'.os = w.os) (ht : w'.tape = w.tape) (hp : w'.output = w.output)
    (hk : ∀ (S : Nat → Prop), (∀ c, Imm A w β h c → S c) → BlkR N w' S β k' b)
    (hr : ∀ (S : Nat → Prop), (∀ c, Imm A w β h c → S c) → Rel N w' S β e.v x) : EffOk A N w β h n e x w' := by
 have hheap : ∀ c, e.heap n h c = if c = a then some k' else h c := fun c => by
  unfold Eff.heap
  rw [h1, h2]
  rw [if_neg (by simp <;> omega)]
  by_cases hc : c = a
  ·subst hc; simp
  ·have : (a == c) = false := by simp; exact fun e => hc e.symm
   simp [this, hc]
 have hlive : ∀ c, Live β (e.heap n h) c → Live β h c := fun c ⟨a', h3, h4⟩ => by
  rw [hheap] at h3
  by_cases hc : a' = a
  ·subst hc; exact ⟨a', by rw [ha]; simp, h4⟩
  ·rw [if_neg hc] at h3; exact ⟨a', h3, h4⟩
 have hbl : Live β h b := ⟨a, by rw [ha]; simp, hb⟩
 have himm : ∀ c, Imm A w β h c → Imm A w' β (e.heap n h) c := fun c hc => ⟨by rw [hsz]; exact hc.lt, fun hl => hc.free (hlive c hl), hc.al, by rw [hw c (fun e => by subst e; exact hc.free hbl)]; exact hc.arr⟩
 have hold : ∀ c, Imm A w β h c → w'.heap[c]? = w.heap[c]? := fun c hc => hw c (fun e => by subst e; exact hc.free hbl)
 refine ⟨β, fun _ _ => rfl, ⟨fun a' k'' hk' => ?_, fun a1 a2 c h3 h4 h5 h6 => ?_⟩, hr _ himm, fun c hc => .inr (hlive c hc), ⟨ho, ht, hp, by rw [hsz]; exact Nat.le_refl _, fun c hc hn => hw c (fun e => by subst e; exact hn hbl), hroom⟩⟩
 ·rw [hheap] at hk'
  by_cases hc : a' = a
  ·rw [if_pos hc] at hk'
   simp only [Option.some.injEq] at hk'
   subst hk'; subst hc
   obtain ⟨b', h3, h4, _⟩ := hh.at' a' k ha
   rw [hb] at h3; cases h3
   exact ⟨b, hb, by rw [hsz]; exact h4, hk _ himm⟩
  ·rw [if_neg hc] at hk'
   obtain ⟨b', h3, h4, h5⟩ := hh.at' a' k'' hk'
   have hne : b' ≠ b := fun e => hc (hh.inj a' a b (by rw [hk']; simp) (by rw [ha]; simp) (by rw [h3, e]) hb)
   exact ⟨b', h3, by rw [hsz]; exact h4, h5.mono (hw b' hne) himm hold hroom (fun _ _ h => h)⟩
 ·rw [hheap] at h3 h4
  have f : ∀ a', (if a' = a then some k' else h a') ≠ none → h a' ≠ none := fun a' h => by
   by_cases hc : a' = a
   ·rw [hc, ha]; simp
   ·rwa [if_neg hc] at h
  exact hh.inj a1 a2 c (f _ h3) (f _ h4) h5 h6
theorem effOk_move {A : Nat → Prop} {N : Nums} {w : World} {β : Nat → Option Nat} {h : Nat → Option Blk} {n : Nat} {e : Eff} {x : Value} {w' : World} {a b : Nat} {k k' : Blk} (hh : HeapR A N w β h) (ha : h a = some k) (hb : β a = some b) (hn : β n = none) (hhn : h n = none) (h1 : e.upd = [(a, none)]) (h2 : e.new = [k'])
    (hw : ∀ c, c ≠ b → c < w.heap.size → w'.heap[c]? = w.heap[c]?) (hroom : ∀ b m, Room w b m → Room w' b m) (hsz : w.heap.size ≤ w'.heap.size) (ho : w'.os = w.os) (ht : w'.tape = w.tape) (hp : w'.output = w.output) (b' : Nat) (hb' : b' = b ∨ b' = w.heap.size ∧ w.heap.size < w'.heap.size)
    (hk : ∀ (β' : Nat → Option Nat) (S : Nat → Prop), (∀ a b, β a = some b → β' a = some b) → β' n = some b' → (∀ b, Imm A w β h b → S b) → BlkR N w' S β' k' b')
    (hr : ∀ (β' : Nat → Option Nat) (S : Nat → Prop), (∀ a b, β a = some b → β' a = some b) → β' n = some b' → (∀ b, Imm A w β h b → S b) → Rel N w' S β' e.v x) : EffOk A N w β h n e x w' := by
 have hβ : ∀ a c, β a = some c → (fun a => if a = n then some b' else β a) a = some c := fun a c hc => by
  by_cases han : a = n
  ·subst han; rw [hn] at hc; cases hc
  ·simp [han, hc]
 have hbw : b < w.heap.size := by
  obtain ⟨b1, h3, h4, _⟩ := hh.at' a k ha
  rw [hb] at h3; cases h3; exact h4
 have hheap : ∀ c, e.heap n h c = if c = n then some k' else if c = a then none else h c := fun c => by
  unfold Eff.heap
  rw [h1, h2]
  by_cases hc : c = n
  ·subst hc; simp
  ·rw [if_neg (by simp; omega), if_neg hc]
   by_cases hca : c = a
   ·subst hca; simp
   ·have : (a == c) = false := by simp; exact fun e => hca e.symm
    simp [this, hca]
 have hbl : Live β h b := ⟨a, by rw [ha]; simp, hb⟩
 have hlive : ∀ c, Live (fun a => if a = n then some b' else β a) (e.heap n h) c → c = b' ∨ Live β h c := fun c ⟨a', h3, h4⟩ => by
  rw [hheap] at h3
  by_cases hc : a' = n
  ·simp [hc] at h4; exact .inl h4.symm
  ·simp only [hc, if_false] at h3 h4
   by_cases hca : a' = a
   ·simp [hca] at h3
   ·rw [if_neg hca] at h3; exact .inr ⟨a', h3, h4⟩
 have himm : ∀ c, Imm A w β h c → Imm A w' (fun a => if a = n then some b' else β a) (e.heap n h) c := fun c hc =>
  ⟨by have := hc.lt; omega, fun hl => (hlive c hl).elim (fun e => by
   rcases hb' with h3 | h3
   ·rw [e, h3] at hc; exact hc.free hbl
   ·have := hc.lt; omega) hc.free, hc.al, by rw [hw c (fun e => by subst e; exact hc.free hbl) hc.lt]; exact hc.arr⟩
 have hold : ∀ c, Imm A w β h c → w'.heap[c]? = w.heap[c]? := fun c hc => hw c (fun e => by subst e; exact hc.free hbl) hc.lt
 have hother : ∀ a' c, a' ≠ a → h a' ≠ none → β a' = some c → c ≠ b' ∧ c < w.heap.size := fun a' c hne hl hc => by
  obtain ⟨k1, hk1⟩ := Option.ne_none_iff_exists'.1 hl
  obtain ⟨c', h3, h4, _⟩ := hh.at' a' k1 hk1
  rw [h3] at hc; cases hc
  refine ⟨fun e => ?_, h4⟩
  rcases hb' with h5 | h5
  ·exact hne (hh.inj a' a c hl (by rw [ha]; simp) h3 (by rw [hb, ← h5, e]))
  ·omega
 refine ⟨fun a => if a = n then some b' else β a, fun a ha => ?_, ⟨fun a' k'' hk' => ?_, fun a1 a2 c h3 h4 h5 h6 => ?_⟩, hr _ _ hβ (by simp) himm, fun c hc => (hlive c hc).elim (fun e => ?_) .inr, ⟨ho, ht, hp, hsz, fun c hc hn' => hw c (fun e => by subst e; exact hn' hbl) hc, hroom⟩⟩
 ·have hne : a ≠ n := fun e => ha ⟨by omega, by rw [h2]; simp; omega⟩
  simp [hne]
 ·rw [hheap] at hk'
  by_cases hc : a' = n
  ·rw [if_pos hc] at hk'
   simp only [Option.some.injEq] at hk'
   subst hk'; subst hc
   refine ⟨b', by simp, ?_, hk _ _ hβ (by simp) himm⟩
   rcases hb' with h3 | h3 <;> omega
  ·rw [if_neg hc] at hk'
   by_cases hca : a' = a
   ·rw [if_pos hca] at hk'; cases hk'
   ·rw [if_neg hca] at hk'
    obtain ⟨c, h3, h4, h5⟩ := hh.at' a' k'' hk'
    obtain ⟨h6, h7⟩ := hother a' c hca (by rw [hk']; simp) h3
    have hcb : c ≠ b := fun e => hca (hh.inj a' a c (by rw [hk']; simp) (by rw [ha]; simp) h3 (by rw [hb, e]))
    exact ⟨c, by simp [hc, h3], by omega, h5.mono (hw c hcb h7) himm hold hroom hβ⟩
 ·rw [hheap] at h3 h4
  by_cases e1 : a1 = n <;> by_cases e2 : a2 = n
  ·rw [e1, e2]
  ·simp [e1] at h5; simp only [e2, if_false] at h4 h6
   by_cases h7 : a2 = a
   ·simp [h7] at h4
   ·rw [if_neg h7] at h4; exact absurd h5.symm (hother a2 c h7 h4 h6).1
  ·simp [e2] at h6; simp only [e1, if_false] at h3 h5
   by_cases h7 : a1 = a
   ·simp [h7] at h3
   ·rw [if_neg h7] at h3; exact absurd h6.symm (hother a1 c h7 h3 h5).1
  ·simp only [e1, e2, if_false] at h3 h4 h5 h6
   by_cases h7 : a1 = a
   ·simp [h7] at h3
   ·by_cases h8 : a2 = a
    ·simp [h8] at h4
    ·rw [if_neg h7] at h3; rw [if_neg h8] at h4; exact hh.inj a1 a2 c h3 h4 h5 h6
 ·rcases hb' with h3 | h3
  ·right; rw [e, h3]; exact hbl
  ·left; omega
end Go.Proofs.YtigdhgbkgfagiaaGreat
