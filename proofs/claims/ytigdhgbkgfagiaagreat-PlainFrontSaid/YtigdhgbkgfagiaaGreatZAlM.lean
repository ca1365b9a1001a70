/- AL: regions that draw their order: whatever order is drawn, what the text's order gives. -/
import Derived.Test.YtigdhgbkgfagiaaGreatZAlL
import Derived.Orders
set_option linter.unusedVariables false
namespace Go.Proofs.YtigdhgbkgfagiaaGreat
section
variable {α β : Type} (wr : Rec → α → Bool) (vl : Rec → α → β)
def upd1 (r : Rec) (f : α → β) (a : α) : β := if wr r a then vl r a else f a
def sel (X : Nat → Bool) : Nat → List Rec → (α → β) → α → β
 | _, [], f => f
 | i, r :: l, f => sel X (i + 1) l (if X i then upd1 wr vl r f else f)
theorem sel_agree {X Y : Nat → Bool} {a : α} : ∀ (l : List Rec) (i : Nat) (f g : α → β), f a = g a → (∀ (k : Nat) (r : Rec), l[k]? = some r → wr r a = true → X (i + k) = Y (i + k)) → sel wr vl X i l f a = sel wr vl Y i l g a
 | [], i, f, g, h, _ => h
 | r :: l, i, f, g, h, hw => by
  simp only [sel]
  refine sel_agree l (i + 1) _ _ ?_ (fun k r' hk hr => by have := hw (k + 1) r' hk hr; rwa [show i + (k + 1) = i + 1 + k by omega] at this)
  by_cases hr : wr r a = true
  ·have := hw 0 r rfl hr
   rw [Nat.add_zero] at this
   rw [this]
   cases Y i with
   | true => simp [upd1, hr]
   | false => simpa using h
  ·have e : ∀ (f : α → β), upd1 wr vl r f a = f a := fun f => by unfold upd1; rw [if_neg hr]
   cases X i <;> cases Y i <;> simp [e, h]
theorem sel_none {X : Nat → Bool} {a : α} : ∀ (l : List Rec) (i : Nat) (f : α → β), (∀ (k : Nat) (r : Rec), l[k]? = some r → wr r a = true → X (i + k) = false) → sel wr vl X i l f a = f a
 | [], i, f, _ => rfl
 | r :: l, i, f, hw => by
  simp only [sel]
  rw [sel_none l (i + 1) _ (fun k r' hk hr => by have := hw (k + 1) r' hk hr; rwa [show i + (k + 1) = i + 1 + k by omega] at this)]
  cases hX : X i with
  | false => rfl
  | true =>
   by_cases hr : wr r a = true
   ·have := hw 0 r rfl hr
    rw [Nat.add_zero, hX] at this; cases this
   ·simp [upd1, hr]
theorem sel_last {X : Nat → Bool} {a : α} : ∀ (l : List Rec) (i k0 : Nat) (r0 : Rec) (f : α → β), l[k0]? = some r0 → X (i + k0) = true → wr r0 a = true → (∀ (k : Nat) (r : Rec), k0 < k → l[k]? = some r → wr r a = true → X (i + k) = false) → sel wr vl X i l f a = vl r0 a
 | [], i, k0, r0, f, h, _, _, _ => by simp at h
 | r :: l, i, 0, r0, f, h, hX, hr, hw => by
  simp only [List.getElem?_cons_zero, Option.some.injEq] at h
  subst h
  simp only [sel]
  rw [sel_none wr vl l (i + 1) _ (fun k r' hk hr' => by have := hw (k + 1) r' (by omega) hk hr'; rwa [show i + (k + 1) = i + 1 + k by omega] at this)]
  rw [Nat.add_zero] at hX
  simp [hX, upd1, hr]
 | r :: l, i, k0 + 1, r0, f, h, hX, hr, hw => by
  simp only [sel]
  exact sel_last l (i + 1) k0 r0 _ (by simpa using h) (by rwa [show i + 1 + k0 = i + (k0 + 1) by omega]) hr (fun k r' hk hk' hr' => by have := hw (k + 1) r' (by omega) hk' hr'; rwa [show i + (k + 1) = i + 1 + k by omega] at this)
theorem sel_add {X : Nat → Bool} {k0 : Nat} {r0 : Rec} {l : List Rec} {f : α → β} (h0 : l[k0]? = some r0) (hX : X k0 = false) (hw : ∀ (a : α) (k : Nat) (r : Rec), wr r0 a = true → k0 < k → l[k]? = some r → wr r a = true → X k = false) :
    sel wr vl (fun i => i == k0 || X i) 0 l f = upd1 wr vl r0 (sel wr vl X 0 l f) := by
 funext a
 unfold upd1
 by_cases hr : wr r0 a = true
 ·rw [if_pos hr]
  refine sel_last wr vl l 0 k0 r0 f h0 (by simp) hr (fun k r hk hk' hr' => ?_)
  have h1 := hw a k r hr hk hk' hr'
  have h2 : (0 + k == k0) = false := by simp; omega
  show (0 + k == k0 || X (0 + k)) = false
  rw [h2, Bool.false_or, Nat.zero_add]; exact h1
 ·rw [if_neg hr]
  refine sel_agree wr vl l 0 f f rfl (fun k r hk hr' => ?_)
  by_cases e : k = k0
  ·subst e; rw [h0] at hk; cases hk; exact absurd hr' hr
  ·have h2 : (0 + k == k0) = false := by simp [e]
   simp only [h2, Bool.false_or]
end
def Rec.wrE (r : Rec) (t : Nat) : Bool := decide (r.dst = some t)
def Rec.vlE (r : Rec) (_ : Nat) : Option V := r.v
def Rec.wrH (r : Rec) (a : Nat) : Bool := (r.eff.find? (fun p => p.1 == a)).isSome
def Rec.vlH (r : Rec) (a : Nat) : Option Blk := ((r.eff.find? (fun p => p.1 == a)).map (·.2)).getD none
theorem Rec.env_upd (r : Rec) (E : Nat → Option V) : r.env E = upd1 Rec.wrE Rec.vlE r E := by
 funext t; simp [Rec.env, upd1, Rec.wrE, Rec.vlE]
theorem Rec.heap_upd (r : Rec) (h : Nat → Option Blk) : r.heap h = upd1 Rec.wrH Rec.vlH r h := by
 funext a
 unfold Rec.heap upd1 Rec.wrH Rec.vlH
 split
 ·rename_i p hq; rw [hq]; rfl
 ·rename_i hq; rw [hq]; rfl
abbrev selE (X : Nat → Bool) (l : List Rec) (E : Nat → Option V) := sel Rec.wrE Rec.vlE X 0 l E
abbrev selH (X : Nat → Bool) (l : List Rec) (h : Nat → Option Blk) := sel Rec.wrH Rec.vlH X 0 l h
structure Apart (r s : Rec) : Prop where
 e1 : ∀ t, r.wrE t = true → t ∉ s.looks ∧ s.wrE t = false
 e2 : ∀ t, s.wrE t = true → t ∉ r.looks
 h1 : ∀ a, r.wrH a = true → a ∉ s.need ∧ s.wrH a = false
 h2 : ∀ a, s.wrH a = true → a ∉ r.need
structure Soft (r s : Rec) : Prop where
 e1 : ∀ t, r.wrE t = true → t ∉ s.looks ∧ s.wrE t = false
 e2 : ∀ t, s.wrE t = true → t ∉ r.looks
 h1 : ∀ a, r.wrH a = false
theorem countP_one {p q : Nat → Bool} {i : Nat} : ∀ {l : List Nat}, l.Nodup → i ∈ l → p i = true → q i = false → (∀ j, j ≠ i → q j = p j) → l.countP p = l.countP q + 1
 | [], _, h, _, _, _ => by cases h
 | a :: l, hn, h, hp, hq, he => by
  rw [List.nodup_cons] at hn
  by_cases ha : a = i
  ·subst ha
   have : l.countP p = l.countP q := List.countP_congr (fun x hx => by rw [he x (fun e => hn.1 (by rw [← e]; exact hx))])
   simp [hp, hq, this]
  ·have hi : i ∈ l := by
     rcases List.mem_cons.1 h with h | h
     ·exact absurd h.symm ha
     ·exact h
   have := countP_one hn.2 hi hp hq he
   simp only [List.countP_cons, he a ha, this]
   omega
section
variable {L : Lib} {C : Ctx} {B : Base} {N : Nat}
theorem drawn_any {ops : Array Oper} {recs : List Rec} {E0 : Nat → Option V} {h0 : Nat → Option Blk} {nfin : Nat} {Q : Exit → Act → World → Prop} {Anc : Nat → List Nat} (hlen : recs.length = ops.size)
    (hok : ∀ (j : Nat) (r : Rec) (o : Oper), recs[j]? = some r → ops[j]? = some o → RecOk C N ops o r (selE (fun i => decide (i < j)) recs E0) (selH (fun i => decide (i < j)) recs h0))
    (hdeps : ∀ (j : Nat) (o : Oper), ops[j]? = some o → ∀ d ∈ Tr.deps o, d < j)
    (hanc : ∀ (j : Nat) (o : Oper), ops[j]? = some o → ∀ d ∈ Anc j, d ∈ Tr.deps o ∨ ∃ d' ∈ Tr.deps o, d ∈ Anc d')
    (hind : ∀ (i j : Nat) (r s : Rec), i < j → recs[i]? = some r → recs[j]? = some s → i ∈ Anc j ∨ Apart r s ∨ (Soft r s ∧ (∀ (k : Nat) (t : Rec), i < k → k < j → recs[k]? = some t → ∀ a ∈ r.need, t.wrH a = false) ∧
     ∀ o, ops[i]? = some o → RecOk C N ops o r (selE (fun x => decide (x < i)) recs E0) (selH (fun x => decide (x < i) || x == j) recs h0)))
    (hslot : ∀ (i j : Nat) (r s : Rec), i < j → recs[i]? = some r → recs[j]? = some s → r.slot + r.k ≤ s.slot) (hn0 : ∀ (j : Nat) (r : Rec), recs[j]? = some r → B.n0 ≤ r.slot ∧ r.slot + r.k ≤ nfin)
    (hQ : ∀ a w β, RS C B N (selE (fun _ => true) recs E0) (selH (fun _ => true) recs h0) β a w → (∀ i, nfin ≤ i → β i = none) → Q .normal a w) :
    ∀ (fuel : Nat) (listed : Array Bool) (a : Act) (w : World) (β : Nat → Option Nat), listed.size = ops.size → (List.range ops.size).countP (fun i => !listed.getD i false) = fuel →
     (∀ (j : Nat) (o : Oper), ops[j]? = some o → listed.getD j false = true → ∀ d ∈ Tr.deps o, listed.getD d false = true) →
     RS C B N (selE (fun i => listed.getD i false) recs E0) (selH (fun i => listed.getD i false) recs h0) β a w → (∀ (j : Nat) (r : Rec), recs[j]? = some r → listed.getD j false = false → ∀ i, r.slot ≤ i → i < r.slot + r.k → β i = none) → (∀ i, nfin ≤ i → β i = none) →
     wpAnyIn B.fw 0 C.T.P .any ops Q fuel listed a w := by
 have hin : ∀ (listed : Array Bool), (∀ (j : Nat) (o : Oper), ops[j]? = some o → listed.getD j false = true → ∀ d ∈ Tr.deps o, listed.getD d false = true) →
     ∀ (j : Nat) (o : Oper), ops[j]? = some o → (∀ d ∈ Tr.deps o, listed.getD d false = true) → ∀ d ∈ Anc j, listed.getD d false = true := by
  intro listed hcl j
  induction j using Nat.strongRecOn with
  | _ j ih =>
   intro o ho hd d hda
   rcases hanc j o ho d hda with h1 | ⟨d', h1, h2⟩
   ·exact hd d h1
   ·have hlt := hdeps j o ho d' h1
    have hd'l : d' < ops.size := Nat.lt_trans hlt (Array.getElem?_eq_some_iff.1 ho).1
    have ho' : ops[d']? = some ops[d'] := Array.getElem?_eq_getElem hd'l
    exact ih d' hlt _ ho' (hcl d' _ ho' (hd d' h1)) d h2
 have hdone : ∀ (listed : Array Bool) (a : Act) (w : World) (β : Nat → Option Nat), (∀ j, j < ops.size → listed.getD j false = true) → RS C B N (selE (fun i => listed.getD i false) recs E0) (selH (fun i => listed.getD i false) recs h0) β a w → (∀ i, nfin ≤ i → β i = none) → Q .normal a w := by
  intro listed a w β hall rs hdom
  refine hQ a w β ?_ hdom
  have e1 : selE (fun i => listed.getD i false) recs E0 = selE (fun _ => true) recs E0 := by
   funext t
   refine sel_agree _ _ recs 0 _ _ rfl (fun k r hk _ => ?_)
   rw [Nat.zero_add]; exact hall k (by rw [← hlen]; exact (List.getElem?_eq_some_iff.1 hk).1)
  have e2 : selH (fun i => listed.getD i false) recs h0 = selH (fun _ => true) recs h0 := by
   funext t
   refine sel_agree _ _ recs 0 _ _ rfl (fun k r hk _ => ?_)
   rw [Nat.zero_add]; exact hall k (by rw [← hlen]; exact (List.getElem?_eq_some_iff.1 hk).1)
  rw [← e1, ← e2]; exact rs
 have hready : ∀ (listed : Array Bool), listed.size = ops.size → Region.ready .any ops listed = [] → ∀ j, j < ops.size → listed.getD j false = true := by
  intro listed hsz hr j
  induction j using Nat.strongRecOn with
  | _ j ih =>
   intro hj
   cases hq : listed.getD j false with
   | true => rfl
   | false =>
    have ho : ops[j]? = some ops[j] := Array.getElem?_eq_getElem hj
    have : j ∈ Region.ready .any ops listed := mem_ready.2 ⟨by
     have : j < listed.size := by omega
     simp only [Array.getD_eq_getD_getElem?, Array.getElem?_eq_getElem this, Option.getD_some] at hq ⊢; exact hq, _, ho, fun e he hb => by
     have hd : e.on ∈ Tr.deps ops[j] := List.mem_map.2 ⟨e, List.mem_filter.2 ⟨by simpa using he, hb⟩, rfl⟩
     have := hdeps j _ ho _ hd
     exact ih e.on this (by omega)⟩
    rw [hr] at this; cases this
 intro fuel
 induction fuel with
 | zero =>
  intro listed a w β hsz hcnt hcl rs hs hdom
  have hall : ∀ j, j < ops.size → listed.getD j false = true := fun j hj => by
   rw [List.countP_eq_zero] at hcnt
   have := hcnt j (List.mem_range.2 hj)
   simpa using this
  refine ⟨?_, hdone listed a w β hall rs hdom⟩
  rw [List.eq_nil_iff_forall_not_mem]
  intro j hj
  obtain ⟨h1, o, ho, _⟩ := mem_ready.1 hj
  have hlt := (Array.getElem?_eq_some_iff.1 ho).1
  have h2 := hall j hlt
  have : j < listed.size := by omega
  simp only [Array.getD_eq_getD_getElem?, Array.getElem?_eq_getElem this, Option.getD_some] at h1 h2
  rw [h1] at h2; cases h2
 | succ fuel ih =>
  intro listed a w β hsz hcnt hcl rs hs hdom
  refine ⟨fun hr => hdone listed a w β (hready listed hsz hr) rs hdom, fun j hj => ?_⟩
  obtain ⟨h1, o, ho, hall⟩ := mem_ready.1 hj
  have hlt := (Array.getElem?_eq_some_iff.1 ho).1
  have hjf : listed.getD j false = false := by
   have : j < listed.size := by omega
   simp only [Array.getD_eq_getD_getElem?, Array.getElem?_eq_getElem this, Option.getD_some] at h1 ⊢; exact h1
  have hdl : ∀ d ∈ Tr.deps o, listed.getD d false = true := fun d hd => by
   obtain ⟨e, he, rfl⟩ := List.mem_map.1 hd
   rw [List.mem_filter] at he
   exact hall e (by simpa using he.1) he.2
  have hanc' := hin listed hcl j o ho hdl
  obtain ⟨r, hr⟩ : ∃ r, recs[j]? = some r := ⟨_, List.getElem?_eq_getElem (by omega)⟩
  have hearly : ∀ (k : Nat) (s : Rec), k < j → recs[k]? = some s → listed.getD k false = true ∨ Apart s r ∨ Soft s r := fun k s hk hks => by
   rcases hind k j s r hk hks hr with h2 | h2 | h2
   ·exact .inl (hanc' k h2)
   ·exact .inr (.inl h2)
   ·exact .inr (.inr h2.1)
  have hlate : ∀ (k : Nat) (s : Rec), j < k → recs[k]? = some s → listed.getD k false = false ∨ Apart r s ∨ (Soft r s ∧ (∀ (q : Nat) (t : Rec), j < q → q < k → recs[q]? = some t → ∀ a ∈ r.need, t.wrH a = false) ∧
      ∀ o, ops[j]? = some o → RecOk C N ops o r (selE (fun x => decide (x < j)) recs E0) (selH (fun x => decide (x < j) || x == k) recs h0)) := fun k s hk hks => by
   rcases hind j k r s hk hr hks with h2 | h2 | h2
   ·left
    cases hq : listed.getD k false with
    | false => rfl
    | true =>
     have hkl : k < ops.size := by rw [← hlen]; exact (List.getElem?_eq_some_iff.1 hks).1
     have hok' : ops[k]? = some ops[k] := Array.getElem?_eq_getElem hkl
     have := hin listed hcl k _ hok' (hcl k _ hok' hq) j h2
     rw [hjf] at this; cases this
   ·exact .inr (.inl h2)
   ·exact .inr (.inr h2)
  have hEl : ∀ t ∈ r.looks, selE (fun i => listed.getD i false) recs E0 t = selE (fun i => decide (i < j)) recs E0 t := fun t ht => by
   refine sel_agree _ _ recs 0 _ _ rfl (fun k s hks hw => ?_)
   rw [Nat.zero_add]
   by_cases c1 : k < j
   ·rw [decide_eq_true c1]
    rcases hearly k s c1 hks with h2 | h2 | h2
    ·exact h2
    ·exact absurd ht (h2.e1 t hw).1
    ·exact absurd ht (h2.e1 t hw).1
   ·rw [decide_eq_false c1]
    by_cases c2 : k = j
    ·rw [c2]; exact hjf
    ·rcases hlate k s (by omega) hks with h2 | h2 | h2
     ·exact h2
     ·exact absurd ht (h2.e2 t hw)
     ·exact absurd ht (h2.1.e2 t hw)
  have hHl : ∃ hb, (∀ q ∈ r.need, selH (fun i => listed.getD i false) recs h0 q = hb q) ∧ RecOk C N ops o r (selE (fun i => decide (i < j)) recs E0) hb := by
   by_cases hs : ∃ (k : Nat) (s : Rec), j < k ∧ recs[k]? = some s ∧ listed.getD k false = true ∧ ∃ q ∈ r.need, s.wrH q = true
   ·obtain ⟨k, s, hjk, hks, hkl, q0, hq0, hw0⟩ := hs
    have hsoft : Soft r s ∧ (∀ (q : Nat) (t : Rec), j < q → q < k → recs[q]? = some t → ∀ a ∈ r.need, t.wrH a = false) ∧
        ∀ o, ops[j]? = some o → RecOk C N ops o r (selE (fun x => decide (x < j)) recs E0) (selH (fun x => decide (x < j) || x == k) recs h0) := by
     rcases hlate k s hjk hks with h2 | h2 | h2
     ·rw [h2] at hkl; cases hkl
     ·exact absurd hq0 (h2.h2 q0 hw0)
     ·exact h2
    refine ⟨_, fun t ht => ?_, hsoft.2.2 o ho⟩
    refine sel_agree _ _ recs 0 _ _ rfl (fun k' s' hks' hw => ?_)
    rw [Nat.zero_add]
    by_cases c1 : k' < j
    ·rw [decide_eq_true c1, Bool.true_or]
     rcases hearly k' s' c1 hks' with h2 | h2 | h2
     ·exact h2
     ·exact absurd ht (h2.h1 t hw).1
     ·rw [h2.h1 t] at hw; cases hw
    ·rw [decide_eq_false c1, Bool.false_or]
     by_cases c2 : k' = k
     ·subst c2; rw [hkl]; simp
     ·have e2 : (k' == k) = false := by simp [c2]
      rw [e2]
      by_cases c3 : k' = j
      ·rw [c3]; exact hjf
      ·rcases hlate k' s' (by omega) hks' with h2 | h2 | h2
       ·exact h2
       ·exact absurd ht (h2.h2 t hw)
       ·rcases Nat.lt_or_gt_of_ne c2 with c4 | c4
        ·have := hsoft.2.1 k' s' (by omega) c4 hks' t ht
         rw [this] at hw; cases hw
        ·have := h2.2.1 k s hjk c4 hks q0 hq0
         rw [this] at hw0; cases hw0
   ·refine ⟨_, fun t ht => ?_, hok j r o hr ho⟩
    refine sel_agree _ _ recs 0 _ _ rfl (fun k s hks hw => ?_)
    rw [Nat.zero_add]
    by_cases c1 : k < j
    ·rw [decide_eq_true c1]
     rcases hearly k s c1 hks with h2 | h2 | h2
     ·exact h2
     ·exact absurd ht (h2.h1 t hw).1
     ·rw [h2.h1 t] at hw; cases hw
    ·rw [decide_eq_false c1]
     by_cases c2 : k = j
     ·rw [c2]; exact hjf
     ·rcases hlate k s (by omega) hks with h2 | h2 | h2
      ·exact h2
      ·exact absurd ht (h2.h2 t hw)
      ·cases hq : listed.getD k false with
       | false => rfl
       | true => exact absurd ⟨k, s, by omega, hks, hq, t, ht, hw⟩ hs
  obtain ⟨hb, hHl, hokb⟩ := hHl
  have hgd : ∀ i, (listed.setIfInBounds j true).getD i false = (i == j || listed.getD i false) := fun i => by
   by_cases c : i = j
   ·subst c
    have : i < listed.size := by omega
    simp [this]
   ·rw [getD_set_ne false (fun e => c e.symm)]
    have : (i == j) = false := by simp [c]
    rw [this, Bool.false_or]
  have hE' : selE (fun i => (listed.setIfInBounds j true).getD i false) recs E0 = r.env (selE (fun i => listed.getD i false) recs E0) := by
   rw [Rec.env_upd, ← sel_add Rec.wrE Rec.vlE hr hjf (fun t k s hw hk hks hw' => by
    rcases hlate k s hk hks with h2 | h2 | h2
    ·exact h2
    ·rw [(h2.e1 t hw).2] at hw'; cases hw'
    ·rw [(h2.1.e1 t hw).2] at hw'; cases hw')]
   simp only [selE, hgd]
  have hH' : selH (fun i => (listed.setIfInBounds j true).getD i false) recs h0 = r.heap (selH (fun i => listed.getD i false) recs h0) := by
   rw [Rec.heap_upd, ← sel_add Rec.wrH Rec.vlH hr hjf (fun t k s hw hk hks hw' => by
    rcases hlate k s hk hks with h2 | h2 | h2
    ·exact h2
    ·rw [(h2.h1 t hw).2] at hw'; cases hw'
    ·rw [h2.1.h1 t] at hw; cases hw)]
   simp only [selH, hgd]
  have hstep := hokb B _ _ β a w hEl hHl (hs j r hr hjf) (hn0 j r hr).1 rs (fun a' w' => wpAnyIn B.fw 0 C.T.P .any ops Q fuel (listed.setIfInBounds j true) a' w') Q (fun a' w' β' hβ' rs' => by
   rw [← hE', ← hH'] at rs'
   refine ih (listed.setIfInBounds j true) a' w' β' (by simpa using hsz) ?_ (fun k o' hk hkl d hd => ?_) rs' (fun k s hks hkl i hi1 hi2 => ?_) (fun i hi => ?_)
   ·have := countP_one (p := fun i => !listed.getD i false) (q := fun i => !(listed.setIfInBounds j true).getD i false) (i := j) (l := List.range ops.size) List.nodup_range (List.mem_range.2 hlt) (by simp only [hjf, Bool.not_false]) (by simp only [hgd]; simp) (fun k hk => by
      have : (k == j) = false := by simp [hk]
      simp only [hgd, this, Bool.false_or])
    omega
   ·rw [hgd] at hkl ⊢
    by_cases c : k = j
    ·subst c
     rw [ho] at hk; cases hk
     rw [hdl d hd, Bool.or_true]
    ·have : (k == j) = false := by simp [c]
     rw [this, Bool.false_or] at hkl
     rw [hcl k o' hk hkl d hd, Bool.or_true]
   ·rw [hgd] at hkl
    have c : k ≠ j := fun e => by subst e; simp at hkl
    have : (k == j) = false := by simp [c]
    rw [this, Bool.false_or] at hkl
    rw [hβ' i ?_]
    ·exact hs k s hks hkl i hi1 hi2
    ·rcases Nat.lt_or_gt_of_ne c with c1 | c1
     ·have := hslot k j s r c1 hks hr; omega
     ·have := hslot j k r s c1 hr hks; omega
   ·rw [hβ' i (by have := (hn0 j r hr).2; omega)]; exact hdom i hi)
  unfold wpOpIn
  simp only [ho]
  split
  ·rename_i hw; rw [if_pos hw] at hstep; exact hstep
  ·rename_i hw; rw [if_neg hw] at hstep; exact ⟨fun _ _ => trivial, hstep⟩
end
end Go.Proofs.YtigdhgbkgfagiaaGreat
