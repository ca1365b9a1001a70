/- AL: other numbers for the blocks: forgetting, renaming, freezing; a call in a part of the heap. -/
import Derived.Test.YtigdhgbkgfagiaaGreatZAlM
set_option linter.unusedVariables false
namespace Go.Proofs.YtigdhgbkgfagiaaGreat
inductive Sg where
 | drop
 | to (a : Nat)
 | frz (size : Nat) (rows : List (List V))
mutual
def V.ren (σ : Nat → Sg) : V → V
 | .agg cs => .agg (V.rens σ cs)
 | .tup cs => .tup (V.rens σ cs)
 | .fn f a b => .fn f (V.rens σ a) (V.rens σ b)
 | .iface t v => .iface t (V.ren σ v)
 | .ref a size off len cap =>
  match σ a with
  | .drop => .bot
  | .to a' => .ref a' size off len cap
  | .frz size' rows => if (size' = size ∧ 0 < size) ∧ off + len ≤ rows.length then .lst size ((rows.drop off).take len) cap else .bot
 | .ptr a size i o =>
  match σ a with
  | .drop => .bot
  | .to a' => .ptr a' size i o
  | .frz size' rows => if size' = size then .iptr size rows i o else .bot
 | .int k n => .int k n
 | .bool b => .bool b
 | .str s => .str s
 | .lst s r c => .lst s r c
 | .iptr s r i o => .iptr s r i o
 | .nilp => .nilp
 | .nilf => .nilf
 | .nili => .nili
 | .bot => .bot
 | .yld a => match σ a with | .to a' => .yld a' | _ => .bot
 | .mapp a => match σ a with | .to a' => .mapp a' | _ => .bot
 | .nilm => .nilm
def V.rens (σ : Nat → Sg) : List V → List V
 | [] => []
 | v :: r => V.ren σ v :: V.rens σ r
end
theorem V.rens_map (σ : Nat → Sg) : ∀ l, V.rens σ l = l.map (V.ren σ)
 | [] => rfl
 | v :: r => by rw [V.rens, V.rens_map σ r]; rfl
mutual
def V.closed : V → Bool
 | .agg cs => V.closeds cs
 | .tup cs => V.closeds cs
 | .fn _ a b => V.closeds a && V.closeds b
 | .iface _ v => V.closed v
 | .ref .. => false
 | .ptr .. => false
 | .int .. => true
 | .bool _ => true
 | .str _ => true
 | .lst .. => true
 | .iptr .. => true
 | .nilp => true
 | .nilf => true
 | .nili => true
 | .bot => true
 | .yld _ => false
 | .mapp _ => false
 | .nilm => true
def V.closeds : List V → Bool
 | [] => true
 | v :: r => V.closed v && V.closeds r
end
mutual
def V.noLst : V → Bool
 | .agg cs => V.noLsts cs
 | .tup cs => V.noLsts cs
 | .fn _ a b => V.noLsts a && V.noLsts b
 | .iface _ v => V.noLst v
 | .ref .. => true
 | .ptr .. => true
 | .int .. => true
 | .bool _ => true
 | .str _ => true
 | .lst .. => false
 | .iptr .. => false
 | .nilp => true
 | .nilf => true
 | .nili => true
 | .bot => true
 | .yld _ => true
 | .mapp _ => true
 | .nilm => true
def V.noLsts : List V → Bool
 | [] => true
 | v :: r => V.noLst v && V.noLsts r
end
theorem V.closeds_get : ∀ {l : List V} {i : Nat} {v : V}, V.closeds l = true → l[i]? = some v → v.closed = true
 | [], i, v, _, h => by simp at h
 | u :: r, 0, v, hc, h => by simp [V.closeds] at hc h; rw [← h]; exact hc.1
 | u :: r, i + 1, v, hc, h => by simp [V.closeds] at hc h; exact V.closeds_get hc.2 h
theorem V.noLsts_get : ∀ {l : List V} {i : Nat} {v : V}, V.noLsts l = true → l[i]? = some v → v.noLst = true
 | [], i, v, _, h => by simp at h
 | u :: r, 0, v, hc, h => by simp [V.noLsts] at hc h; rw [← h]; exact hc.1
 | u :: r, i + 1, v, hc, h => by simp [V.noLsts] at hc h; exact V.noLsts_get hc.2 h
section
variable {N : Nums} {w : World}
theorem Rel.of_closed {S : Nat → Prop} {β : Nat → Option Nat} {v : V} {x : Value} (h : Rel N w S β v x) : v.closed = true → ∀ β', Rel N w S β' v x := by
 induction h with
 | int β k n => exact fun _ β' => .int _ k n
 | bool β b => exact fun _ β' => .bool _ b
 | str β s => exact fun _ β' => .str _ s
 | agg β cs ys hl h1 h ih => exact fun hc β' => .agg _ cs ys hl h1 fun i c y h3 h4 => ih i c y h3 h4 (V.closeds_get (by simpa [V.closed] using hc) h3) β'
 | lst β size rows cap a c b off ys hc hlc ha hn hr hy h hz ih => exact fun _ β' => .lst _ size rows cap a c b off ys hc hlc ha hn hr hy h hz
 | iptr β size rows i o b off ys hSb hr hy h ih => exact fun _ β' => .iptr _ size rows i o b off ys hSb hr hy h
 | ref => exact fun hc => by simp [V.closed] at hc
 | ptr => exact fun hc => by simp [V.closed] at hc
 | nilp β => exact fun _ _ => .nilp _
 | fn β f fid hf first caps ys zs h1 h2 hy hz ih1 ih2 =>
  intro hc β'
  simp only [V.closed, Bool.and_eq_true] at hc
  exact .fn _ f fid hf first caps ys zs h1 h2 (fun i c y h3 h4 => ih1 i c y h3 h4 (V.closeds_get hc.1 h3) β') (fun i c y h3 h4 => ih2 i c y h3 h4 (V.closeds_get hc.2 h3) β')
 | nilf β => exact fun _ _ => .nilf _
 | iface β t T ht v y h ih => exact fun hc β' => .iface _ t T ht v y (ih (by simpa [V.closed] using hc) β')
 | nili β => exact fun _ _ => .nili _
 | tup β cs ys hl h ih => exact fun hc β' => .tup _ cs ys hl fun i c y h3 h4 => ih i c y h3 h4 (V.closeds_get (by simpa [V.closed] using hc) h3) β'
 | bot β y hy => exact fun _ _ => .bot _ y hy
 | yld => exact fun hc => by simp [V.closed] at hc
 | mapp => exact fun hc => by simp [V.closed] at hc
 | nilm β => exact fun _ _ => .nilm _
theorem Rel.of_noLst {S S' : Nat → Prop} {β : Nat → Option Nat} {v : V} {x : Value} (h : Rel N w S β v x) : v.noLst = true → Rel N w S' β v x := by
 induction h with
 | int β k n => exact fun _ => .int _ k n
 | bool β b => exact fun _ => .bool _ b
 | str β s => exact fun _ => .str _ s
 | agg β cs ys hl h1 h ih => exact fun hc => .agg _ cs ys hl h1 fun i c y h3 h4 => ih i c y h3 h4 (V.noLsts_get (by simpa [V.noLst] using hc) h3)
 | lst => exact fun hc => by simp [V.noLst] at hc
 | iptr => exact fun hc => by simp [V.noLst] at hc
 | ref β a size off len cap b x c hb hc hlc hx hm hnn => exact fun _ => .ref _ a size off len cap b x c hb hc hlc hx hm hnn
 | ptr β a size i o b hb => exact fun _ => .ptr _ a size i o b hb
 | nilp β => exact fun _ => .nilp _
 | fn β f fid hf first caps ys zs h1 h2 hy hz ih1 ih2 =>
  intro hc
  simp only [V.noLst, Bool.and_eq_true] at hc
  exact .fn _ f fid hf first caps ys zs h1 h2 (fun i c y h3 h4 => ih1 i c y h3 h4 (V.noLsts_get hc.1 h3)) (fun i c y h3 h4 => ih2 i c y h3 h4 (V.noLsts_get hc.2 h3))
 | nilf β => exact fun _ => .nilf _
 | iface β t T ht v y h ih => exact fun hc => .iface _ t T ht v y (ih (by simpa [V.noLst] using hc))
 | nili β => exact fun _ => .nili _
 | tup β cs ys hl h ih => exact fun hc => .tup _ cs ys hl fun i c y h3 h4 => ih i c y h3 h4 (V.noLsts_get (by simpa [V.noLst] using hc) h3)
 | bot β y hy => exact fun _ => .bot _ y hy
 | yld β a b hb => exact fun _ => .yld _ a b hb
 | mapp β a b hb => exact fun _ => .mapp _ a b hb
 | nilm β => exact fun _ => .nilm _
structure RenOk (N : Nums) (w : World) (S' : Nat → Prop) (σ : Nat → Sg) (β β' : Nat → Option Nat) : Prop where
 to : ∀ a a' b, σ a = .to a' → β a = some b → β' a' = some b
 frz : ∀ a size rows b, σ a = .frz size rows → β a = some b → S' b ∧ (∀ (i : Nat) (row : List V), rows[i]? = some row → row.length = size) ∧
  ∀ (i : Nat) (row : List V) (j : Nat) (x : V), rows[i]? = some row → row[j]? = some x → ∃ y, w.cell? ⟨b, i * size + j, none⟩ = some y ∧ y.oneCell' = true ∧ Rel N w S' (fun _ => none) x y
theorem Rel.ren {S S' : Nat → Prop} (hS : ∀ b, S b → S' b) {σ : Nat → Sg} {β : Nat → Option Nat} {v : V} {x : Value} (h : Rel N w S β v x) : ∀ {β' : Nat → Option Nat}, RenOk N w S' σ β β' → Rel N w S' β' (v.ren σ) x := by
 have hmono : ∀ {β : Nat → Option Nat} {v : V} {x : Value}, Rel N w S β v x → Rel N w S' β v x := fun h => h.mono hS (fun _ _ => rfl) (fun _ _ h => h) (fun _ _ h => h)
 induction h with
 | int β k n => exact fun _ => .int _ k n
 | bool β b => exact fun _ => .bool _ b
 | str β s => exact fun _ => .str _ s
 | agg β cs ys hl h1 h ih =>
  intro β' hr
  simp only [V.ren, V.rens_map]
  refine .agg _ _ ys (by simpa using hl) h1 fun i c y h3 h4 => ?_
  rw [List.getElem?_map] at h3
  cases hq : cs[i]? with
  | none => rw [hq] at h3; cases h3
  | some c0 => rw [hq] at h3; simp at h3; rw [← h3]; exact ih i c0 y hq h4 hr
 | lst β size rows cap a c b off ys hc hlc ha hn hr hy h hz ih =>
  exact fun _ => .lst _ size rows cap a c b off ys hc hlc (fun h0 => ⟨(ha h0).1, hS _ (ha h0).2⟩) hn hr hy (fun i row j x h1 h2 => hmono (h i row j x h1 h2)) hz
 | iptr β size rows i o b off ys hSb hr hy h ih => exact fun _ => .iptr _ size rows i o b off ys (hS _ hSb) hr hy (fun i row j x h1 h2 => hmono (h i row j x h1 h2))
 | ref β a size off len cap b x c hb hc hlc hx hm hnn =>
  intro β' hr
  simp only [V.ren]
  cases hq : σ a with
  | drop => exact .bot _ _ rfl
  | to a' => exact .ref _ a' size off len cap b x c (hr.to a a' b hq hb) hc hlc hx hm hnn
  | frz size' rows =>
   simp only
   split
   ·rename_i hcond
    obtain ⟨⟨rfl, hpos⟩, hle⟩ := hcond
    obtain ⟨f1, f2, f3⟩ := hr.frz a size' rows b hq hb
    have hlen : ((rows.drop off).take len).length = len := by simp; omega
    have hget : ∀ (i : Nat) (row : List V), ((rows.drop off).take len)[i]? = some row → rows[off + i]? = some row := fun i row hi => by
     rw [List.getElem?_take] at hi
     split at hi
     ·rw [List.getElem?_drop] at hi; exact hi
     ·cases hi
    have hcell : ∀ (i : Nat) (row : List V) (j : Nat) (x : V), ((rows.drop off).take len)[i]? = some row → row[j]? = some x → ∃ y, w.cell? ⟨b, off * size' + i * size' + j, none⟩ = some y ∧ y.oneCell' = true ∧ Rel N w S' (fun _ => none) x y := fun i row j x hi hj => by
     have := f3 (off + i) row j x (hget i row hi) hj
     rwa [Nat.add_mul] at this
    have := Rel.lst (N := N) (w := w) (S := S') β' size' ((rows.drop off).take len) cap x c b (off * size') (fun i j => (w.cell? ⟨b, off * size' + i * size' + j, none⟩).getD undef) hc (by rw [hlen]; exact hlc) (fun h0 => ⟨by
     rcases hx with hx | hx
     ·rw [hlen] at h0; omega
     ·exact hx, f1⟩) (fun hn => by
     rcases hx with hx | hx
     ·exact hx
     ·rw [hn] at hx; cases hx) (fun i row hi => f2 _ _ (hget i row hi))
     (fun i row j x hi hj => by obtain ⟨y, q1, q2, _⟩ := hcell i row j x hi hj; rw [q1]; exact ⟨rfl, q2⟩)
     (fun i row j x hi hj => by obtain ⟨y, q1, _, q3⟩ := hcell i row j x hi hj; rw [q1]; exact q3) ⟨fun h _ => by omega, fun _ _ => hnn⟩
    rw [hlen] at this
    exact this
   ·exact .bot _ _ rfl
 | ptr β a size i o b hb =>
  intro β' hr
  simp only [V.ren]
  cases hq : σ a with
  | drop => exact .bot _ _ rfl
  | to a' => exact .ptr _ a' size i o b (hr.to a a' b hq hb)
  | frz size' rows =>
   simp only
   split
   ·rename_i hcond
    subst hcond
    obtain ⟨f1, f2, f3⟩ := hr.frz a size' rows b hq hb
    have := Rel.iptr (N := N) (w := w) (S := S') β' size' rows i o b 0 (fun i j => (w.cell? ⟨b, i * size' + j, none⟩).getD undef) f1 f2
     (fun i row j x hi hj => by obtain ⟨y, q1, q2, _⟩ := f3 i row j x hi hj; rw [Nat.zero_add, q1]; exact ⟨rfl, q2⟩)
     (fun i row j x hi hj => by obtain ⟨y, q1, _, q3⟩ := f3 i row j x hi hj; rw [q1]; exact q3)
    rw [Nat.zero_add] at this
    exact this
   ·exact .bot _ _ rfl
 | nilp β => exact fun _ => .nilp _
 | fn β f fid hf first caps ys zs h1 h2 hy hz ih1 ih2 =>
  intro β' hr
  simp only [V.ren, V.rens_map]
  refine .fn _ f fid hf _ _ ys zs (by simpa using h1) (by simpa using h2) (fun i c y h3 h4 => ?_) (fun i c y h3 h4 => ?_)
  ·rw [List.getElem?_map] at h3
   cases hq : first[i]? with
   | none => rw [hq] at h3; cases h3
   | some c0 => rw [hq] at h3; simp at h3; rw [← h3]; exact ih1 i c0 y hq h4 hr
  ·rw [List.getElem?_map] at h3
   cases hq : caps[i]? with
   | none => rw [hq] at h3; cases h3
   | some c0 => rw [hq] at h3; simp at h3; rw [← h3]; exact ih2 i c0 y hq h4 hr
 | nilf β => exact fun _ => .nilf _
 | iface β t T ht v y h ih => exact fun hr => .iface _ t T ht _ y (ih hr)
 | nili β => exact fun _ => .nili _
 | tup β cs ys hl h ih =>
  intro β' hr
  simp only [V.ren, V.rens_map]
  refine .tup _ _ ys (by simpa using hl) fun i c y h3 h4 => ?_
  rw [List.getElem?_map] at h3
  cases hq : cs[i]? with
  | none => rw [hq] at h3; cases h3
  | some c0 => rw [hq] at h3; simp at h3; rw [← h3]; exact ih i c0 y hq h4 hr
 | bot β y hy => exact fun _ => .bot _ y hy
 | yld β a b hb =>
  intro β' hr
  simp only [V.ren]
  cases hq : σ a with
  | to a' => exact .yld _ a' b (hr.to a a' b hq hb)
  | drop => exact .bot _ _ rfl
  | frz => exact .bot _ _ rfl
 | mapp β a b hb =>
  intro β' hr
  simp only [V.ren]
  cases hq : σ a with
  | to a' => exact .mapp _ a' b (hr.to a a' b hq hb)
  | drop => exact .bot _ _ rfl
  | frz => exact .bot _ _ rfl
 | nilm β => exact fun _ => .nilm _
def Env.sh (E : Env) (σ : Nat → Sg) : Env := E.map fun p => (p.1, p.2.ren σ)
theorem Env.get_sh (E : Env) (σ : Nat → Sg) (t : Nat) : (E.sh σ).get t = (E.get t).map (V.ren σ) := by
 induction E with
 | nil => rfl
 | cons p r ih =>
  obtain ⟨k, v⟩ := p
  simp only [Env.sh, List.map_cons, Env.get] at ih ⊢
  by_cases h : k = t
  ·subst h; simp
  ·have : (k == t) = false := by simp [h]
   rw [this, cond_false, cond_false]; exact ih
theorem Env.get_mem : ∀ {E : Env} {t : Nat} {v : V}, E.get t = some v → (t, v) ∈ E
 | [], t, v, h => by simp [Env.get] at h
 | (k, u) :: r, t, v, h => by
  simp only [Env.get] at h
  by_cases e : k = t
  ·subst e; simp at h; subst h; simp
  ·have : (k == t) = false := by simp [e]
   rw [this, cond_false] at h
   exact List.mem_cons_of_mem _ (Env.get_mem h)
def Blk.ren (σ : Nat → Sg) : Blk → Blk
 | .arr size rows => .arr size (rows.map fun r => r.map (V.ren σ))
 | .loop nt E ps ad body => .loop nt (Env.sh E σ) ps ad body
 | .stop j => .stop j
 | .map es bs clk => .map (es.map fun p => (p.1.ren σ, p.2.ren σ)) bs clk
 | .iter none since seen last => .iter none since seen last
 | .iter (some a) since seen last => match σ a with | .to a' => .iter (some a') since seen last | _ => .junk
 | .siter s pos => .siter s pos
 | .junk => .junk
def Blk.closed : Blk → Bool
 | .arr _ rows => rows.all fun r => r.all V.closed
 | _ => false
def Blk.noLst : Blk → Bool
 | .arr _ rows => rows.all fun r => r.all V.noLst
 | .loop _ E _ _ _ => List.all E fun p => p.2.noLst
 | .stop _ => true
 | .map es _ _ => es.all fun p => p.1.noLst && p.2.noLst
 | .iter .. => true
 | .siter .. => true
 | .junk => true
theorem BlkR.ren {S S' : Nat → Prop} (hS : ∀ b, S b → S' b) {σ : Nat → Sg} {β β' : Nat → Option Nat} {k : Blk} {b : Nat} (h : BlkR N w S β k b) (hr : RenOk N w S' σ β β') : BlkR N w S' β' (k.ren σ) b := by
 cases k with
 | arr size rows =>
  obtain ⟨cells, T, fz, h1, h2, h3, h4⟩ := h
  have hget : ∀ (i : Nat) (row : List V), (rows.map fun r => r.map (V.ren σ))[i]? = some row → ∃ r0, rows[i]? = some r0 ∧ row = r0.map (V.ren σ) := fun i row hi => by
   rw [List.getElem?_map] at hi
   cases hq : rows[i]? with
   | none => rw [hq] at hi; cases hi
   | some r0 => rw [hq] at hi; simp at hi; exact ⟨r0, rfl, hi.symm⟩
  refine ⟨cells, T, fz, h1, by simpa using h2, fun i row hi => ?_, fun i row j x hi hj => ?_⟩
  ·obtain ⟨r0, q1, rfl⟩ := hget i row hi
   simpa using h3 i r0 q1
  ·obtain ⟨r0, q1, rfl⟩ := hget i row hi
   rw [List.getElem?_map] at hj
   cases hq : r0[j]? with
   | none => rw [hq] at hj; cases hj
   | some x0 =>
    rw [hq] at hj; simp at hj
    obtain ⟨y, p1, p2, p3⟩ := h4 i r0 j x0 q1 hq
    exact ⟨y, p1, p2, by rw [← hj]; exact p3.ren hS hr⟩
 | loop nt E ps ad body =>
  obtain ⟨r, h1, h2, h3, h4, h5, h6, h7, h8⟩ := h
  refine ⟨r, h1, h2, h3, h4, h5, h6, h7, fun t v hv => ?_⟩
  rw [Env.get_sh, Option.map_eq_some_iff] at hv
  obtain ⟨v0, hv0, rfl⟩ := hv
  obtain ⟨x, hx, hxr⟩ := h8 t v0 hv0
  exact ⟨x, hx, hxr.ren hS hr⟩
 | stop j => exact h
 | map es bs clk =>
  obtain ⟨arr, h1, h2, hb, h3⟩ := h
  refine ⟨arr, h1, by simpa using h2, hb, fun i p e hp he => ?_⟩
  rw [List.getElem?_map, Option.map_eq_some_iff] at hp
  obtain ⟨p0, hp0, rfl⟩ := hp
  exact ⟨(h3 i p0 e hp0 he).1.ren hS hr, (h3 i p0 e hp0 he).2.ren hS hr⟩
 | iter m since seen last =>
  cases m with
  | none => exact h
  | some a =>
   obtain ⟨q, h1, c, h2, h3⟩ := h
   simp only [Blk.ren]
   cases hq : σ a with
   | to a' => exact ⟨q, h1, c, hr.to a a' c hq h2, h3⟩
   | drop => exact ⟨_, h1, fun d e => by cases e⟩
   | frz s r => exact ⟨_, h1, fun d e => by cases e⟩
 | siter s pos => exact h
 | junk => exact h
theorem BlkR.of_noLst {S S' : Nat → Prop} {β : Nat → Option Nat} {k : Blk} {b : Nat} (h : BlkR N w S β k b) (hk : k.noLst = true) : BlkR N w S' β k b := by
 cases k with
 | arr size rows =>
  obtain ⟨cells, T, fz, h1, h2, h3, h4⟩ := h
  refine ⟨cells, T, fz, h1, h2, h3, fun i row j x hi hj => ?_⟩
  obtain ⟨y, p1, p2, p3⟩ := h4 i row j x hi hj
  simp only [Blk.noLst, List.all_eq_true] at hk
  exact ⟨y, p1, p2, p3.of_noLst (hk row (List.mem_of_getElem? hi) x (List.mem_of_getElem? hj))⟩
 | loop nt E ps ad body =>
  obtain ⟨r, h1, h2, h3, h4, h5, h6, h7, h8⟩ := h
  refine ⟨r, h1, h2, h3, h4, h5, h6, h7, fun t v hv => ?_⟩
  obtain ⟨x, hx, hxr⟩ := h8 t v hv
  simp only [Blk.noLst, List.all_eq_true] at hk
  exact ⟨x, hx, hxr.of_noLst (hk (t, v) (Env.get_mem hv))⟩
 | stop j => exact h
 | iter m since seen last => exact h
 | siter s pos => exact h
 | junk => exact h
 | map es bs clk =>
  obtain ⟨arr, h1, h2, hb, h3⟩ := h
  refine ⟨arr, h1, h2, hb, fun i p e hp he => ?_⟩
  simp only [Blk.noLst, List.all_eq_true, Bool.and_eq_true] at hk
  obtain ⟨k1, k2⟩ := hk p (List.mem_of_getElem? hp)
  exact ⟨(h3 i p e hp he).1.of_noLst k1, (h3 i p e hp he).2.of_noLst k2⟩
theorem BlkR.frozen {S S' : Nat → Prop} (hS : ∀ b, S b → S' b) {β : Nat → Option Nat} {size : Nat} {rows : List (List V)} {b : Nat} (h : BlkR N w S β (.arr size rows) b) (hc : (Blk.arr size rows).closed = true) :
    (∀ (i : Nat) (row : List V), rows[i]? = some row → row.length = size) ∧ ∀ (i : Nat) (row : List V) (j : Nat) (x : V), rows[i]? = some row → row[j]? = some x → ∃ y, w.cell? ⟨b, i * size + j, none⟩ = some y ∧ y.oneCell' = true ∧ Rel N w S' (fun _ => none) x y := by
 obtain ⟨cells, T, fz, h1, h2, h3, h4⟩ := id h
 refine ⟨h3, fun i row j x hi hj => ?_⟩
 obtain ⟨y, p1, p2, p3⟩ := h.cell hi hj
 simp only [Blk.closed, List.all_eq_true] at hc
 exact ⟨y, p1, p2, (p3.of_closed (hc row (List.mem_of_getElem? hi) x (List.mem_of_getElem? hj)) _).mono hS (fun _ _ => rfl) (fun _ _ h => h) (fun _ _ h => h)⟩
end
end Go.Proofs.YtigdhgbkgfagiaaGreat
