/- AL: regions that draw their order, carried out in the text's order. -/
import Derived.Test.YtigdhgbkgfagiaaGreatZAlP
set_option linter.unusedVariables false
namespace Go.Proofs.YtigdhgbkgfagiaaGreat
def Rec.keys (r : Rec) : List Nat := r.eff.map (·.1)
def apartB (r s : Rec) : Bool :=
 (match r.dst with | some d => !s.looks.contains d && (match s.dst with | some d' => !(d == d') | none => true) | none => true) &&
 (match s.dst with | some d => !r.looks.contains d | none => true) &&
 (r.keys.all fun a => !s.need.contains a && !s.keys.contains a) && (s.keys.all fun a => !r.need.contains a)
theorem wrH_keys {r : Rec} {a : Nat} (h : r.wrH a = true) : a ∈ r.keys := by
 unfold Rec.wrH at h
 rw [Option.isSome_iff_exists] at h
 obtain ⟨p, hp⟩ := h
 have h1 := List.mem_of_find?_eq_some hp
 have h2 := List.find?_some hp
 simp at h2
 exact List.mem_map.2 ⟨p, h1, h2⟩
theorem apartB_spec {r s : Rec} (h : apartB r s = true) : Apart r s := by
 unfold apartB at h
 simp only [Bool.and_eq_true, List.all_eq_true] at h
 obtain ⟨⟨⟨h1, h2⟩, h3⟩, h4⟩ := h
 refine ⟨fun t ht => ?_, fun t ht => ?_, fun a ha => ?_, fun a ha => ?_⟩
 ·have hd : r.dst = some t := by simpa [Rec.wrE] using ht
  rw [hd] at h1
  simp only [Bool.and_eq_true] at h1
  refine ⟨by simpa using h1.1, ?_⟩
  unfold Rec.wrE
  rw [decide_eq_false_iff_not]
  intro hs
  rw [hs] at h1
  simp at h1
 ·have hd : s.dst = some t := by simpa [Rec.wrE] using ht
  rw [hd] at h2
  simpa using h2
 ·obtain ⟨g1, g2⟩ := h3 a (wrH_keys ha)
  refine ⟨by simpa using g1, ?_⟩
  cases hq : s.wrH a with
  | false => rfl
  | true => have := wrH_keys hq; simp [this] at g2
 ·simpa using h4 a (wrH_keys ha)
def ancM (ms : List Nat) : List Nat → Nat
 | [] => 0
 | d :: r => ancM ms r ||| (ms.getD d 0 ||| 1 <<< d)
theorem ancM_spec {ms : List Nat} {d : Nat} : ∀ {l : List Nat}, (ancM ms l).testBit d = true → ∃ x ∈ l, d = x ∨ (ms.getD x 0).testBit d = true
 | [], h => by simp [ancM] at h
 | x :: r, h => by
  simp only [ancM, Nat.testBit_or, Bool.or_eq_true] at h
  rcases h with h | h | h
  ·obtain ⟨y, hy, h1⟩ := ancM_spec h; exact ⟨y, by simp [hy], h1⟩
  ·exact ⟨x, by simp, .inr h⟩
  ·refine ⟨x, by simp, .inl ?_⟩
   rw [Nat.one_shiftLeft, Nat.testBit_two_pow] at h
   simpa using (of_decide_eq_true h).symm
def indB (m : Nat) (r : Rec) : Nat → List Rec → Bool
 | _, [] => true
 | i, s :: l => (m.testBit i || apartB s r) && indB m r (i + 1) l
def effO (σ : Nat → Sg) (quiet : List Nat) (h' : Heap) : List Nat → Nat → List (Nat × Option Blk)
 | [], _ => []
 | a :: r, i => if quiet.contains i then effO σ quiet h' r (i + 1) else (a, (h'.get i).map (Blk.ren σ)) :: effO σ quiet h' r (i + 1)
def effN (σ : Nat → Sg) : List (Option Blk) → Nat → List (Nat × Option Blk)
 | [], _ => []
 | b :: r, n => (n, b.map (Blk.ren σ)) :: effN σ r (n + 1)
def effB (n : Nat) (src quiet : List Nat) (h' : Heap) : List (Nat × Option Blk) := effN (outσ n src) (h'.drop src.length) n ++ effO (outσ n src) quiet h' src 0
theorem effN_find (σ : Nat → Sg) (a : Nat) : ∀ (l : List (Option Blk)) (n : Nat), (effN σ l n).find? (fun p => p.1 == a) = if n ≤ a ∧ a < n + l.length then some (a, (l[a - n]?.getD none).map (Blk.ren σ)) else none
 | [], n => by simp [effN]
 | b :: l, n => by
  simp only [effN, List.find?_cons]
  by_cases h : n = a
  ·subst h; simp
  ·have : (n == a) = false := by simp [h]
   simp only [this, effN_find σ a l (n + 1), List.length_cons]
   by_cases h2 : n + 1 ≤ a ∧ a < n + 1 + l.length
   ·rw [if_pos h2, if_pos (by omega), show a - n = a - (n + 1) + 1 by omega]; simp
   ·rw [if_neg h2, if_neg (by omega)]
theorem effO_none {σ : Nat → Sg} {quiet : List Nat} {h' : Heap} {a : Nat} : ∀ {src : List Nat} {i : Nat}, a ∉ src → (effO σ quiet h' src i).find? (fun p => p.1 == a) = none
 | [], i, _ => rfl
 | x :: r, i, h => by
  simp only [List.mem_cons, not_or] at h
  have : (x == a) = false := by simp; exact fun e => h.1 e.symm
  simp only [effO]
  split
  ·exact effO_none h.2
  ·rw [List.find?_cons]; simp only [this]; exact effO_none h.2
theorem effO_find {σ : Nat → Sg} {quiet : List Nat} {h' : Heap} {a k : Nat} : ∀ {src : List Nat} {i : Nat}, nodupO (src.map some) = true → posIn (src.map some) a i = some k →
    (effO σ quiet h' src i).find? (fun p => p.1 == a) = if quiet.contains k then none else some (a, (h'.get k).map (Blk.ren σ))
 | [], i, _, h => by simp [posIn] at h
 | x :: r, i, hn, h => by
  simp only [List.map_cons, nodupO, Bool.and_eq_true] at hn
  simp only [List.map_cons, posIn] at h
  by_cases e : x = a
  ·subst e
   simp at h; subst h
   have hnot : x ∉ r := fun hm => by
    have h1 : posIn (r.map some) x 0 = none := by simpa using hn.1
    obtain ⟨j, hj, hx⟩ := List.mem_iff_getElem.1 hm
    exact posIn_none h1 j (by rw [List.getElem?_map, List.getElem?_eq_getElem hj, hx]; rfl)
   simp only [effO]
   split
   ·exact effO_none hnot
   ·simp
  ·have e2 : (x == a) = false := by simp [e]
   rw [e2, cond_false] at h
   have ih := effO_find (σ := σ) (quiet := quiet) (h' := h') hn.2 h
   simp only [effO]
   split
   ·exact ih
   ·rw [List.find?_cons]; simp only [e2]; exact ih
theorem mem_of_posIn {src : List Nat} {a k : Nat} (h : posIn (src.map some) a 0 = some k) : a ∈ src := List.mem_of_getElem? (posIn_map h)
theorem back_backF {H : Heap} {src : List Nat} (h' : Heap) (hlt : ∀ a ∈ src, a < H.length) : backF H.get H.length src h' = (H.back src h').get := by
 funext a
 rw [back_get H src h' hlt]
 unfold backF
 by_cases c : a < H.length
 ·rw [if_pos c]
  cases posIn (src.map some) a 0 with
  | some i => rfl
  | none => simp only; rw [if_neg (by omega)]
 ·rw [if_neg c]
  cases hp : posIn (src.map some) a 0 with
  | some i => exact absurd (hlt a (mem_of_posIn hp)) c
  | none =>
   simp only
   by_cases c2 : H.length ≤ a ∧ a < H.length + (h'.length - src.length)
   ·rw [if_pos c2]
   ·rw [if_neg c2]
    have e1 : H.get a = none := by unfold Heap.get; rw [List.getElem?_eq_none (by omega)]; rfl
    have e2 : h'.get (src.length + (a - H.length)) = none := by unfold Heap.get; rw [List.getElem?_eq_none (by omega)]; rfl
    rw [e1, e2]; rfl
theorem effB_heap {H : Heap} {h : Nat → Option Blk} {src quiet : List Nat} {h' : Heap} {r : Rec} (hr : r.eff = effB H.length src quiet h') (hn : nodupO (src.map some) = true) (hlt : ∀ a ∈ src, a < H.length) (hag : ∀ a ∈ src, h a = H.get a)
    (hq : ∀ i ∈ quiet, ∀ a, src[i]? = some a → (h'.get i).map (Blk.ren (outσ H.length src)) = H.get a) : backF h H.length src h' = r.heap h := by
 funext a
 unfold Rec.heap
 rw [hr]
 unfold effB backF
 rw [List.find?_append, effN_find]
 cases hp : posIn (src.map some) a 0 with
 | some i =>
  have hm := mem_of_posIn hp
  have := hlt a hm
  have hno : ¬ (H.length ≤ a ∧ a < H.length + (List.drop src.length h').length) := by omega
  rw [if_neg hno, effO_find hn hp, Option.none_or]
  by_cases hqi : quiet.contains i = true
  ·rw [if_pos hqi]
   show Option.map (Blk.ren (outσ H.length src)) (h'.get i) = h a
   rw [hq i (by simpa using hqi) a (posIn_map hp), hag a hm]
  ·rw [if_neg hqi]
 | none =>
  have hm : a ∉ src := fun hm => by
   obtain ⟨j, hj, hx⟩ := List.mem_iff_getElem.1 hm
   exact posIn_none hp j (by rw [List.getElem?_map, List.getElem?_eq_getElem hj, hx]; rfl)
  rw [effO_none hm]
  simp only [Option.or_none, List.length_drop]
  by_cases c : H.length ≤ a ∧ a < H.length + (h'.length - src.length)
  ·rw [if_pos c, if_pos c]
   simp only [List.getElem?_drop]; rfl
  ·rw [if_neg c, if_neg c]
def softB (r s : Rec) : Bool :=
 (match r.dst with | some d => !s.looks.contains d && (match s.dst with | some d' => !(d == d') | none => true) | none => true) &&
 (match s.dst with | some d => !r.looks.contains d | none => true) && r.eff.isEmpty
theorem softB_spec {r s : Rec} (h : softB r s = true) : Soft r s := by
 unfold softB at h
 simp only [Bool.and_eq_true] at h
 obtain ⟨⟨h1, h2⟩, h3⟩ := h
 refine ⟨fun t ht => ?_, fun t ht => ?_, fun a => ?_⟩
 ·have hd : r.dst = some t := by simpa [Rec.wrE] using ht
  rw [hd] at h1
  simp only [Bool.and_eq_true] at h1
  refine ⟨by simpa using h1.1, ?_⟩
  unfold Rec.wrE
  rw [decide_eq_false_iff_not]
  intro hs
  rw [hs] at h1
  simp at h1
 ·have hd : s.dst = some t := by simpa [Rec.wrE] using ht
  rw [hd] at h2
  simpa using h2
 ·have : r.eff = [] := by simpa using h3
  unfold Rec.wrH
  rw [this]; rfl
def clearB (s : Rec) (l : List Rec) : Bool := l.all fun t => s.need.all fun q => !t.keys.contains q
theorem clearB_spec {s : Rec} {l : List Rec} (h : clearB s l = true) : ∀ t ∈ l, ∀ a ∈ s.need, t.wrH a = false := fun t ht a ha => by
 unfold clearB at h
 rw [List.all_eq_true] at h
 have h1 := h t ht
 rw [List.all_eq_true] at h1
 have h2 := h1 a ha
 cases hq : t.wrH a with
 | false => rfl
 | true => have := wrH_keys hq; simp [this] at h2
def indW (L : Lib) (H' : Heap) (m : Nat) (r : Rec) : Nat → List Rec → List (AI × Env) → Prop
 | _, [], _ => True
 | i, s :: l, as => (m.testBit i = true ∨ apartB s r = true ∨ ∃ a as', as = a :: as' ∧ softB s r = true ∧ clearB s l = true ∧ a.1.plain L.G s.slot a.2.get H'.get = some s) ∧ indW L H' m r (i + 1) l as.tail
theorem indW_spec {L : Lib} {H' : Heap} {m : Nat} {r : Rec} : ∀ {l : List Rec} {as : List (AI × Env)} {i : Nat}, indW L H' m r i l as → ∀ (k : Nat) (s : Rec), l[k]? = some s →
    m.testBit (i + k) = true ∨ Apart s r ∨ ∃ a, as[k]? = some a ∧ Soft s r ∧ (∀ (q : Nat) (t : Rec), k < q → l[q]? = some t → ∀ x ∈ s.need, t.wrH x = false) ∧ a.1.plain L.G s.slot a.2.get H'.get = some s
 | [], as, i, _, k, s, h => by simp at h
 | x :: l, as, i, h, 0, s, hs => by
  simp at hs; subst hs
  rcases h.1 with h | h | ⟨a, as', rfl, h1, h2, h3⟩
  ·exact .inl h
  ·exact .inr (.inl (apartB_spec h))
  ·refine .inr (.inr ⟨a, rfl, softB_spec h1, fun q t hq ht => ?_, h3⟩)
   cases q with
   | zero => omega
   | succ q => exact clearB_spec h2 t (List.mem_of_getElem? (by simpa using ht))
 | x :: l, as, i, h, k + 1, s, hs => by
  have := indW_spec h.2 k s (by simpa using hs)
  rw [show i + 1 + k = i + (k + 1) by omega] at this
  rcases this with h1 | h1 | ⟨a, h1, h2, h3, h4⟩
  ·exact .inl h1
  ·exact .inr (.inl h1)
  ·refine .inr (.inr ⟨a, ?_, h2, fun q t hq ht => ?_, h4⟩)
   ·cases as with
    | nil => simp at h1
    | cons b as => simpa using h1
   ·cases q with
    | zero => omega
    | succ q => exact h3 q t (by omega) (by simpa using ht)
theorem indW_of {L : Lib} {H' : Heap} {m : Nat} {r : Rec} : ∀ {l : List Rec} {as : List (AI × Env)} {i : Nat}, indB m r i l = true → indW L H' m r i l as
 | [], as, i, _ => trivial
 | x :: l, as, i, h => by
  simp only [indB, Bool.and_eq_true, Bool.or_eq_true] at h
  exact ⟨h.1.imp id .inl, indW_of h.2⟩
theorem RecOk.base {C : Ctx} {N : Nat} {ops : Array Oper} {o : Oper} {r : Rec} {E0 : Nat → Option V} {h0 h1 : Nat → Option Blk} (h : RecOk C N ops o r E0 h0) (he : ∀ a ∈ r.need, h1 a = h0 a) : RecOk C N ops o r E0 h1 :=
 fun B E h' β a w hE hh hs hn rs => h B E h' β a w hE (fun q hq => (hh q hq).trans (he q hq)) hs hn rs
def FnD (L : Lib) (k : Tgt) (vs : List V) (H : Heap) (K : V → List Nat → List (Nat × Option Blk) → Nat → Heap → Prop) : Prop :=
 ∃ (src bor quiet : List Nat) (r0 : V) (h' : Heap) (k' : Tgt), k.sub (src.map some) = some k' ∧ nodupO (src.map some) = true ∧ (src.all fun a => Nat.blt a H.length) = true ∧
  AFn L k' (vs.map (V.ren (sgOf H (src.map some) bor))) (H.sh (src.map some) bor) (fun r h => r = r0 ∧ h = h') ∧ outOk bor r0 h' = true ∧ src.length ≤ h'.length ∧
  (∀ i ∈ quiet, ∀ a, src[i]? = some a → (h'.get i).map (Blk.ren (outσ H.length src)) = H.get a) ∧
  K (r0.ren (outσ H.length src)) (src ++ bor) (effB H.length src quiet h') (h'.length - src.length) (H.back src h')
def dstepP (L : Lib) (i : AI) (K : Rec → Env → Heap → Prop) (E : Env) (H : Heap) : Prop :=
 match i.goes E.get with
 | some false => K { dst := i.dst, looks := i.looks, v := some (.tup []), need := [], eff := [], slot := H.length, k := 0 } (E.put i.dst (.tup [])) H
 | some true =>
  match i.op with
  | .call c args =>
   match callee L.G E.get c args with
   | some (k, vs) => FnD L k vs H fun r nd ef n H' => K { dst := i.dst, looks := i.looks, v := some r, need := nd, eff := ef, slot := H.length, k := n } (E.put i.dst r) H'
   | none => False
  | op => match op.exec H.length H.get (opval L.G E.get) with
   | some e => (e.upd.all fun p => Nat.blt p.1 H.length) = true ∧ K { dst := i.dst, looks := i.looks, v := some e.v, need := e.need, eff := e.all H.length, slot := H.length, k := e.new.length } (E.put i.dst e.v) (H.app e)
   | none => False
 | none => False
def dopsP (L : Lib) : List AI → List Rec → List Nat → (Env → Heap → Prop) → Env → Heap → Prop
 | [], _, _, K, E, H => K E H
 | i :: l, rs, ms, K, E, H => dstepP L i (fun r E' H' => indB (ancM ms i.anc) r 0 rs = true ∧ dopsP L l (rs ++ [r]) (ms ++ [ancM ms i.anc]) K E' H') E H
def dopsS (L : Lib) : List AI → List Rec → List (AI × Env) → List Nat → (Env → Heap → Prop) → Env → Heap → Prop
 | [], _, _, _, K, E, H => K E H
 | i :: l, rs, as, ms, K, E, H => dstepP L i (fun r E' H' => indW L H' (ancM ms i.anc) r 0 rs as ∧ dopsS L l (rs ++ [r]) (as ++ [(i, E)]) (ms ++ [ancM ms i.anc]) K E' H') E H
theorem FnD.mono {L : Lib} {k : Tgt} {vs : List V} {H : Heap} {K K' : V → List Nat → List (Nat × Option Blk) → Nat → Heap → Prop} (h : FnD L k vs H K) (hk : ∀ r nd ef n H', K r nd ef n H' → K' r nd ef n H') : FnD L k vs H K' := by
 obtain ⟨src, bor, quiet, r0, h', k', h1, h2, h3, h4, h5, h6, h7, h8⟩ := h
 exact ⟨src, bor, quiet, r0, h', k', h1, h2, h3, h4, h5, h6, h7, hk _ _ _ _ _ h8⟩
theorem dstepP.mono {L : Lib} {i : AI} {K K' : Rec → Env → Heap → Prop} {E : Env} {H : Heap} (h : dstepP L i K E H) (hk : ∀ r E' H', K r E' H' → K' r E' H') : dstepP L i K' E H := by
 unfold dstepP at h ⊢
 split at h
 ·exact hk _ _ _ h
 ·split at h
  ·split at h
   ·exact FnD.mono h (fun r nd ef n H' hr => hk _ _ _ hr)
   ·exact h
  ·split at h
   ·exact ⟨h.1, hk _ _ _ h.2⟩
   ·exact h
 ·exact h
theorem dopsS_of {L : Lib} {K : Env → Heap → Prop} : ∀ {l : List AI} {rs : List Rec} {as : List (AI × Env)} {ms : List Nat} {E : Env} {H : Heap}, dopsP L l rs ms K E H → dopsS L l rs as ms K E H
 | [], rs, as, ms, E, H, h => h
 | i :: l, rs, as, ms, E, H, h => dstepP.mono (K := fun r E' H' => indB (ancM ms i.anc) r 0 rs = true ∧ dopsP L l (rs ++ [r]) (ms ++ [ancM ms i.anc]) K E' H') h (fun r E' H' ⟨h1, h2⟩ => ⟨indW_of h1, dopsS_of h2⟩)
section
variable {L : Lib} {C : Ctx} {B : Base} {N : Nat}
theorem callee_looks {ai : AI} {E E0 : Nat → Option V} {c : ACallee} {args : List AOpd} (hc : ai.op = .call c args) (h : ∀ t ∈ ai.looks, E t = E0 t) : callee L.G E c args = callee L.G E0 c args := by
 have h1 := looks_opd L.G h
 rw [hc] at h1
 unfold callee
 rw [evals_congr (fun x hx => h1 x (by simp [AOp.opds, hx]))]
 cases c with
 | fn k => rfl
 | dyn x =>
  have := h1 x (by simp [AOp.opds])
  simp only [this]
 | meth x tab =>
  have := h1 x (by simp [AOp.opds])
  simp only [this]
theorem call_ok (hC : Ok L C) {ops : Array Oper} {draw : Bool} {i : Nat} {o : Oper} {ai : AI} (hai : C.T.oper N ops draw i o = some ai) {c : ACallee} {args : List AOpd} (hc : ai.op = .call c args) {E0 : Nat → Option V} (hg : ai.goes E0 = some true) {H : Heap} {k k' : Tgt} {vs : List V} (hcl : callee L.G E0 c args = some (k, vs))
    {src bor quiet : List Nat} {r0 : V} {h' : Heap} (hn : nodupO (src.map some) = true) (hlt : ∀ a ∈ src, a < H.length) (ht : k.sub (src.map some) = some k') (hP : AFn L k' (vs.map (V.ren (sgOf H (src.map some) bor))) (H.sh (src.map some) bor) (fun r h => r = r0 ∧ h = h')) (hout : outOk bor r0 h' = true)
    (hq : ∀ i ∈ quiet, ∀ a, src[i]? = some a → (h'.get i).map (Blk.ren (outσ H.length src)) = H.get a) :
    RecOk C N ops o { dst := ai.dst, looks := ai.looks, v := some (r0.ren (outσ H.length src)), need := src ++ bor, eff := effB H.length src quiet h', slot := H.length, k := h'.length - src.length } E0 H.get := by
 intro B E h β a w hE hh hs hn0 rs K Q hK
 obtain ⟨hop, hdst, hdn, _, _, _, hcall⟩ := Tr.oper_spec hai
 have hg' : ai.goes E = some true := by rw [looks_goes hE]; exact hg
 rw [goes_wanted hai rs hg', if_pos rfl]
 have hop : C.T.op o.op = some ai.op := (hop (by rw [hc]; simp)).resolve_right (fun hx => by rw [hc] at hx; exact xop_call hx)
 rw [hc] at hop hcall
 have hcl' : callee L.G E c args = some (k, vs) := by rw [callee_looks hc hE]; exact hcl
 obtain ⟨xs, h2, h4⟩ := call_resolves hC rs hop (hcall rfl) hcl'
 refine enter_wp (h := h) (β := β) (fun c hc => by rw [hc] at hop; simp [Tr.op] at hop) h4 (frame_fn (n := H.length) src bor hn ht hP hC (fun b hb => B.hA b ?_) rs.heap rs.glob h2 (fun q hq => ?_) hlt (fun r h'' ⟨e1, e2⟩ => ?_)) ?_
 ·rcases hb with hb | hb
  ·left; exact Nat.le_trans rs.frm.size hb
  ·exact rs.own b hb
 ·rw [hh q ?_]
  rcases hq with hq | ⟨j, hq⟩
  ·exact List.mem_append_right _ (by simpa using hq)
  ·rw [List.getElem?_map, Option.map_eq_some_iff] at hq
   obtain ⟨q', hq', e⟩ := hq
   cases e
   exact List.mem_append_left _ (List.mem_of_getElem? hq')
 ·subst e1; subst e2
  exact ⟨hout, hs⟩
 ·rintro e w' ⟨v, rr, h'', β', rfl, ⟨rfl, rfl⟩, g1, g2, g3, g4, g5, g6, g7⟩
  have hb := effB_heap (r := { dst := ai.dst, looks := ai.looks, v := some (rr.ren (outσ H.length src)), need := src ++ bor, eff := effB H.length src quiet h'', slot := H.length, k := h''.length - src.length }) rfl hn hlt (h := h) (fun q hq => hh q (List.mem_append_left _ hq)) hq
  rw [hb] at g4 g5 g6
  refine ⟨v, rfl, ?_⟩
  refine hK _ _ β' (fun q hq => g2 q hq) ?_
  have hst := rs.step (dst := o.dst) (v := some (rr.ren (outσ H.length src))) (x := v) (β' := β') g3 (fun q hq => g2 q (by have : B.n0 ≤ H.length := hn0; omega)) g4 g6 g7 (fun v' hv' => by cases hv'; exact g5) (fun d hd => hdn d hd)
  rw [← hdst] at hst ⊢
  exact hst
theorem dstep_good (hC : Ok L C) {ops : Array Oper} {i : Nat} {o : Oper} {ai : AI} (hai : C.T.oper N ops true i o = some ai) {E : Env} {H : Heap} {K : Rec → Env → Heap → Prop} (hP : dstepP L ai K E H) :
    ∃ r E' H', K r E' H' ∧ RecOk C N ops o r E.get H.get ∧ r.slot = H.length ∧ H.length + r.k = H'.length ∧ E'.get = r.env E.get ∧ H'.get = r.heap H.get := by
 unfold dstepP at hP
 split at hP
 ·rename_i hg
  refine ⟨_, _, _, hP, plain_ok hC hai (by unfold AI.plain; rw [hg]), rfl, rfl, ?_, rfl⟩
  funext t; rw [Env.get_put]; rfl
 ·rename_i hg
  split at hP
  ·rename_i c args hc
   split at hP
   ·rename_i k vs hcl
    obtain ⟨src, bor, quiet, r0, h', k', ht, h1, h2, h3, h4, h5, h6, h7⟩ := hP
    have hlt : ∀ a ∈ src, a < H.length := fun a h => by simpa using List.all_eq_true.1 h2 a h
    refine ⟨_, _, _, h7, call_ok hC hai hc hg hcl h1 hlt ht h3 h4 h6, rfl, by rw [back_length], ?_, ?_⟩
    ·funext t; rw [Env.get_put]; rfl
    ·rw [← back_backF h' hlt]; exact effB_heap rfl h1 hlt (fun _ _ => rfl) h6
   ·exact hP.elim
  ·split at hP
   ·rename_i e he
    obtain ⟨hall, hk⟩ := hP
    have hlt : ∀ p ∈ e.upd, p.1 < H.length := fun p hp => by simpa using List.all_eq_true.1 hall p hp
    refine ⟨_, _, _, hk, plain_ok hC hai (slot := H.length) (by unfold AI.plain; rw [hg]; simp only; rw [he]; rfl), rfl, by rw [Heap.app_length], ?_, ?_⟩
    ·funext t; rw [Env.get_put]; rfl
    ·rw [Heap.app_get H e hlt]; funext q; exact (Eff.all_heap e _ _ q).symm
   ·exact hP.elim
 ·exact hP.elim
theorem sel_append {α β : Type} (wr : Rec → α → Bool) (vl : Rec → α → β) (X : Nat → Bool) : ∀ (l m : List Rec) (i : Nat) (f : α → β), sel wr vl X i (l ++ m) f = sel wr vl X (i + l.length) m (sel wr vl X i l f)
 | [], m, i, f => rfl
 | r :: l, m, i, f => by
  simp only [List.cons_append, sel, List.length_cons]
  rw [sel_append wr vl X l m (i + 1)]
  congr 1; omega
theorem sel_congr {α β : Type} (wr : Rec → α → Bool) (vl : Rec → α → β) {X Y : Nat → Bool} (l : List Rec) (f : α → β) (h : ∀ k, k < l.length → X k = Y k) : sel wr vl X 0 l f = sel wr vl Y 0 l f := by
 funext a
 exact sel_agree wr vl l 0 f f rfl (fun k r hk _ => by rw [Nat.zero_add]; exact h k (List.getElem?_eq_some_iff.1 hk).1)
theorem sel_snoc {α β : Type} (wr : Rec → α → Bool) (vl : Rec → α → β) (l : List Rec) (r : Rec) (f : α → β) {j : Nat} (h : j ≤ l.length) : sel wr vl (fun i => decide (i < j)) 0 (l ++ [r]) f = sel wr vl (fun i => decide (i < j)) 0 l f := by
 rw [sel_append]
 have : decide (0 + l.length < j) = false := by simp; omega
 simp only [sel, this]
 rfl
structure Good (C : Ctx) (N : Nat) (ops : Array Oper) (E0 : Env) (H0 : Heap) (recs : List Rec) (as : List (AI × Env)) (ms : List Nat) (E : Env) (H : Heap) : Prop where
 env : ∀ (i : Nat) (a : AI × Env), as[i]? = some a → i < recs.length ∧ a.2.get = selE (fun x => decide (x < i)) recs E0.get ∧ ∀ o, ops[i]? = some o → C.T.oper N ops true i o = some a.1
 alen : as.length = recs.length
 len : recs.length ≤ ops.size
 mlen : ms.length = recs.length
 ok : ∀ (j : Nat) (r : Rec) (o : Oper), recs[j]? = some r → ops[j]? = some o → RecOk C N ops o r (selE (fun i => decide (i < j)) recs E0.get) (selH (fun i => decide (i < j)) recs H0.get)
 msk : ∀ (j : Nat) (o : Oper), j < recs.length → ops[j]? = some o → ∀ d, (ms.getD j 0).testBit d = true → ∃ x ∈ Tr.deps o, x < j ∧ (d = x ∨ (ms.getD x 0).testBit d = true)
 ind : ∀ (i j : Nat) (r s : Rec), i < j → recs[i]? = some r → recs[j]? = some s → (ms.getD j 0).testBit i = true ∨ Apart r s ∨ (Soft r s ∧ (∀ (k : Nat) (t : Rec), i < k → k < j → recs[k]? = some t → ∀ a ∈ r.need, t.wrH a = false) ∧
     ∀ o, ops[i]? = some o → RecOk C N ops o r (selE (fun x => decide (x < i)) recs E0.get) (selH (fun x => decide (x < i) || x == j) recs H0.get))
 slot : ∀ (i j : Nat) (r s : Rec), i < j → recs[i]? = some r → recs[j]? = some s → r.slot + r.k ≤ s.slot
 n0 : ∀ (j : Nat) (r : Rec), recs[j]? = some r → H0.length ≤ r.slot ∧ r.slot + r.k ≤ H.length
 hE : E.get = selE (fun _ => true) recs E0.get
 hH : H.get = selH (fun _ => true) recs H0.get
 hl : H0.length ≤ H.length
theorem Good.snoc (hC : Ok L C) {ops : Array Oper} {E0 : Env} {H0 : Heap} {recs : List Rec} {as : List (AI × Env)} {ms : List Nat} {E E' : Env} {H H' : Heap} (g : Good C N ops E0 H0 recs as ms E H) {r : Rec} {o : Oper} {ai : AI} (ho : ops[recs.length]? = some o) (hai : C.T.oper N ops true recs.length o = some ai)
    (h1 : RecOk C N ops o r E.get H.get) (h2 : r.slot = H.length) (h3 : H.length + r.k = H'.length) (h4 : E'.get = r.env E.get) (h5 : H'.get = r.heap H.get) (h6 : indW L H' (ancM ms ai.anc) r 0 recs as) : Good C N ops E0 H0 (recs ++ [r]) (as ++ [(ai, E)]) (ms ++ [ancM ms ai.anc]) E' H' := by
 obtain ⟨_, _, _, hanc, hdlt, _, _⟩ := Tr.oper_spec hai
 have hm1 : ∀ x, x < recs.length → (ms ++ [ancM ms ai.anc]).getD x 0 = ms.getD x 0 := fun x hx => by
  simp only [List.getD_eq_getElem?_getD]; rw [List.getElem?_append_left (by rw [g.mlen]; exact hx)]
 have hm2 : (ms ++ [ancM ms ai.anc]).getD recs.length 0 = ancM ms ai.anc := by
  simp only [List.getD_eq_getElem?_getD]; rw [List.getElem?_append_right (by rw [g.mlen]; exact Nat.le_refl _), g.mlen]; simp
 have hcase : ∀ (j : Nat) (s : Rec), (recs ++ [r])[j]? = some s → (j < recs.length ∧ recs[j]? = some s) ∨ (j = recs.length ∧ s = r) := fun j s hj => by
  rw [List.getElem?_append] at hj
  by_cases c : j < recs.length
  ·rw [if_pos c] at hj; exact .inl ⟨c, hj⟩
  ·rw [if_neg c] at hj
   have h1 := (List.getElem?_eq_some_iff.1 hj).1
   simp at h1
   have h2 : j = recs.length := by omega
   subst h2
   simp at hj
   exact .inr ⟨rfl, hj.symm⟩
 have hHall : H'.get = selH (fun _ => true) (recs ++ [r]) H0.get := by
  have e1 := g.hH
  simp only [selH] at e1 ⊢
  rw [sel_append]
  simp only [sel, if_true]
  rw [← e1, h5, Rec.heap_upd]
 refine ⟨fun i a hi => ?_, by simp [g.alen], by have := (Array.getElem?_eq_some_iff.1 ho).1; simp; omega, by simp [g.mlen], fun j s o' hj ho' => ?_, fun j o' hj ho' d hd => ?_, fun i j s t hij hi hj => ?_, fun i j s t hij hi hj => ?_, fun j s hj => ?_, ?_, ?_, by have := g.hl; omega⟩
 ·rw [List.getElem?_append] at hi
  by_cases c : i < as.length
  ·rw [if_pos c] at hi
   obtain ⟨e1, e2, e3⟩ := g.env i a hi
   refine ⟨by simp; omega, ?_, e3⟩
   simp only [selE] at e2 ⊢
   rw [sel_snoc _ _ _ _ _ (by omega)]; exact e2
  ·rw [if_neg c] at hi
   have h1 := (List.getElem?_eq_some_iff.1 hi).1
   simp at h1
   have h2 : i = recs.length := by have := g.alen; omega
   subst h2
   rw [g.alen, Nat.sub_self] at hi
   simp at hi
   subst hi
   refine ⟨by simp, ?_, fun o' ho' => by rw [ho] at ho'; cases ho'; exact hai⟩
   have e1 := g.hE
   simp only [selE] at e1 ⊢
   rw [sel_snoc _ _ _ _ _ (Nat.le_refl _), sel_congr Rec.wrE Rec.vlE recs E0.get (Y := fun _ => true) (fun k hk => by simp [hk])]
   exact e1
 ·rcases hcase j s hj with ⟨c, hj'⟩ | ⟨rfl, rfl⟩
  ·have := g.ok j s o' hj' ho'
   simp only [selE, selH] at this ⊢
   rw [sel_snoc _ _ _ _ _ (by omega), sel_snoc _ _ _ _ _ (by omega)]; exact this
  ·rw [ho] at ho'; cases ho'
   simp only [selE, selH]
   rw [sel_snoc _ _ _ _ _ (Nat.le_refl _), sel_snoc _ _ _ _ _ (Nat.le_refl _)]
   rw [sel_congr Rec.wrE Rec.vlE recs E0.get (Y := fun _ => true) (fun k hk => by simp [hk]), sel_congr Rec.wrH Rec.vlH recs H0.get (Y := fun _ => true) (fun k hk => by simp [hk])]
   have e1 := g.hE; have e2 := g.hH
   simp only [selE, selH] at e1 e2
   rw [← e1, ← e2]; exact h1
 ·by_cases c : j < recs.length
  ·rw [hm1 j c] at hd
   obtain ⟨x, hx, hxj, h⟩ := g.msk j o' c ho' d hd
   exact ⟨x, hx, hxj, by rw [hm1 x (by omega)]; exact h⟩
  ·have e : j = recs.length := by simp at hj; omega
   subst e
   rw [ho] at ho'; cases ho'
   rw [hm2] at hd
   obtain ⟨x, hx, h⟩ := ancM_spec hd
   rw [hanc rfl] at hx
   have hxl := hdlt x hx
   exact ⟨x, hx, hxl, by rw [hm1 x hxl]; exact h⟩
 ·rcases hcase j t hj with ⟨c, hj'⟩ | ⟨rfl, rfl⟩
  ·rcases hcase i s hi with ⟨c', hi'⟩ | ⟨rfl, rfl⟩
   ·rw [hm1 j c]
    rcases g.ind i j s t hij hi' hj' with h | h | ⟨q1, q2, q3⟩
    ·exact .inl h
    ·exact .inr (.inl h)
    ·refine .inr (.inr ⟨q1, fun k t' hk1 hk2 hk => q2 k t' hk1 hk2 ?_, fun o' ho' => ?_⟩)
     ·rw [List.getElem?_append, if_pos (by omega)] at hk; exact hk
     ·have := q3 o' ho'
      simp only [selE, selH] at this ⊢
      rw [sel_snoc _ _ _ _ _ (by omega), sel_append]
      have hx : (decide (0 + recs.length < i) || 0 + recs.length == j) = false := by
       rw [Bool.or_eq_false_iff]
       constructor
       ·simp; omega
       ·simp; omega
      simp only [sel, hx, Bool.false_eq_true, if_false]
      exact this
   ·omega
  ·rcases hcase i s hi with ⟨c', hi'⟩ | ⟨rfl, rfl⟩
   ·rw [hm2]
    rcases indW_spec h6 i s hi' with h | h | ⟨a, ha, q1, q2, q3⟩
    ·rw [Nat.zero_add] at h; exact .inl h
    ·exact .inr (.inl h)
    ·obtain ⟨_, e2, e3⟩ := g.env i a ha
     refine .inr (.inr ⟨q1, fun k t' hk1 hk2 hk => ?_, fun o' ho' => ?_⟩)
     ·rw [List.getElem?_append, if_pos hk2] at hk
      exact q2 k t' hk1 hk
     ·have hrec := plain_ok hC (e3 o' ho') q3
      rw [e2] at hrec
      have e4 : selE (fun x => decide (x < i)) (recs ++ [t]) E0.get = selE (fun x => decide (x < i)) recs E0.get := by
       simp only [selE]; exact sel_snoc _ _ _ _ _ (by omega)
      rw [e4]
      refine hrec.base (fun q hq => ?_)
      rw [hHall]
      refine sel_agree _ _ _ 0 _ _ rfl (fun k t' hk hw => ?_)
      rw [Nat.zero_add]
      rcases hcase k t' hk with ⟨c1, hk'⟩ | ⟨rfl, rfl⟩
      ·by_cases c2 : k < i
       ·rw [decide_eq_true c2]; rfl
       ·by_cases c3 : k = i
        ·subst c3
         rw [hi'] at hk'; cases hk'
         rw [q1.h1 q] at hw; cases hw
        ·have := q2 k t' (by omega) hk' q hq
         rw [this] at hw; cases hw
      ·simp
   ·omega
 ·rcases hcase j t hj with ⟨c, hj'⟩ | ⟨rfl, rfl⟩
  ·rcases hcase i s hi with ⟨c', hi'⟩ | ⟨rfl, rfl⟩
   ·exact g.slot i j s t hij hi' hj'
   ·omega
  ·rcases hcase i s hi with ⟨c', hi'⟩ | ⟨rfl, rfl⟩
   ·rw [h2]; exact (g.n0 i s hi').2
   ·omega
 ·rcases hcase j s hj with ⟨c, hj'⟩ | ⟨rfl, rfl⟩
  ·have := g.n0 j s hj'; omega
  ·have := g.hl; omega
 ·have e1 := g.hE
  simp only [selE] at e1 ⊢
  rw [sel_append]
  simp only [sel, if_true]
  rw [← e1, h4, Rec.env_upd]
 ·exact hHall
theorem dops_good (hC : Ok L C) {ops : Array Oper} {E0 : Env} {H0 : Heap} {K : Env → Heap → Prop} : ∀ (l : List Oper) (ais : List AI) (recs : List Rec) (as : List (AI × Env)) (ms : List Nat) (E : Env) (H : Heap), ops.toList.drop recs.length = l → C.T.opers N ops true recs.length l = some ais → Good C N ops E0 H0 recs as ms E H → dopsS L ais recs as ms K E H →
    ∃ recs' as' ms' E' H', recs'.length = ops.size ∧ Good C N ops E0 H0 recs' as' ms' E' H' ∧ K E' H'
 | [], ais, recs, as, ms, E, H, hl, h, g, hP => by
  simp [Tr.opers] at h; subst h
  have hle : ops.size ≤ recs.length := by simpa using hl
  exact ⟨recs, as, ms, E, H, by have := g.len; omega, g, hP⟩
 | o :: l, ais, recs, as, ms, E, H, hl, h, g, hP => by
  simp only [Tr.opers, Option.bind_eq_some_iff] at h
  obtain ⟨ai, hai, ais', hais, h⟩ := h
  simp only [Option.some.injEq] at h
  subst h
  have ho : ops[recs.length]? = some o := by
   have : (ops.toList.drop recs.length)[0]? = some o := by rw [hl]; rfl
   simpa [List.getElem?_drop] using this
  obtain ⟨r, E', H', ⟨h1, h2⟩, h3, h4, h5, h6, h7⟩ := dstep_good hC hai hP
  have hg := g.snoc hC ho hai h3 h4 h5 h6 h7 h1
  refine dops_good hC l ais' (recs ++ [r]) _ _ E' H' ?_ (by simpa using hais) hg h2
  rw [List.length_append, List.length_singleton, ← List.drop_drop, hl]
  rfl
theorem draw_wpS (hC : Ok L C) {ops : Array Oper} {ais : List AI} {id : Nat} {Q : Exit → Act → World → Prop} {K : Env → Heap → Prop} (hais : C.T.opers N ops true 0 ops.toList = some ais) {E : Env} {H : Heap} {a : Act} {w : World} (r : RSx C B N E H a w) (hP : dopsS L ais [] [] [] K E H)
    (hK : ∀ a' w' E' H', K E' H' → RSx C B N E' H' a' w' → Q .normal a' w') : (Code.region id ops true).wpIn B.fw 0 C.T.P Q a w := by
 obtain ⟨β, r⟩ := r
 obtain ⟨recs, as, ms, E', H', hlen, g, hk⟩ := dops_good hC ops.toList ais [] [] [] E H (by simp) hais ⟨fun i a h => by simp at h, rfl, by simp, rfl, fun j r o h => by simp at h, fun j o h => by simp at h, fun i j r s _ h => by simp at h, fun i j r s _ h => by simp at h, fun j r h => by simp at h, rfl, rfl, Nat.le_refl _⟩ hP
 refine wpIn_region_any C.mixed ?_
 have hd : ∀ (j : Nat) (o : Oper), ops[j]? = some o → ∀ d ∈ Tr.deps o, d < j := fun j o ho => by
  have : ∀ (l : List Oper) (i : Nat) (as : List AI), C.T.opers N ops true i l = some as → ∀ (k : Nat) (o : Oper), l[k]? = some o → ∀ d ∈ Tr.deps o, d < i + k := by
   intro l
   induction l with
   | nil => intro i as _ k o h; simp at h
   | cons x l ih =>
    intro i as h k o hk
    simp only [Tr.opers, Option.bind_eq_some_iff] at h
    obtain ⟨ai, hai, as', has, _⟩ := h
    cases k with
    | zero =>
     simp at hk; subst hk
     obtain ⟨_, _, _, _, h5, _, _⟩ := Tr.oper_spec hai
     exact h5
    | succ k =>
     have := ih (i + 1) as' has k o (by simpa using hk)
     rwa [show i + 1 + k = i + (k + 1) by omega] at this
  have := this ops.toList 0 ais hais j o (by simpa using ho)
  rwa [Nat.zero_add] at this
 have hnod : RS C B N E.get H.get β a { w with drawn := w.drawn + 1 } := by
  obtain ⟨β', h1, h2, h3, h4, h5⟩ := effOk_same (w' := { w with drawn := w.drawn + 1 }) (e := { v := .tup [] }) (n := H.length) (x := .tuple #[]) r.rs.heap rfl rfl rfl rfl rfl rfl (.tup _ _ _ rfl (fun i c y h => by simp at h))
  have hb : β' = β := by funext q; exact h1 q (by simp)
  subst hb
  have he := Eff.heap_none (e := { v := .tup [] }) (n := H.length) (h := H.get) rfl rfl
  rw [he] at h2 h3 h4
  have := r.rs.step (dst := none) (v := none) (x := undef) (fun _ _ h => h) (fun _ _ => rfl) h2 h4 h5 (fun v' hv => by cases hv) (fun d hd => by cases hd)
  exact this
 refine drawn_any (B := B) (recs := recs) (E0 := E.get) (h0 := H.get) (nfin := H'.length) (Anc := fun j => (List.range ops.size).filter fun d => (ms.getD j 0).testBit d) hlen g.ok hd (fun j o ho d hd' => ?_) (fun i j s t hij hi hj => ?_) g.slot (fun j s hj => ?_) (fun a' w' β' rs' hdom => ?_) ops.size (Array.replicate ops.size false) a _ β (by simp) ?_ (fun j o ho hl => ?_) ?_ (fun j s hj _ i h1 h2 => r.dom i (by have := (g.n0 j s hj).1; omega)) (fun i hi => r.dom i (by have := g.hl; omega))
 ·rw [List.mem_filter] at hd'
  obtain ⟨x, hx, hxj, h⟩ := g.msk j o (by rw [hlen]; exact (Array.getElem?_eq_some_iff.1 ho).1) ho d hd'.2
  rcases h with rfl | h
  ·exact .inl hx
  ·exact .inr ⟨x, hx, List.mem_filter.2 ⟨hd'.1, h⟩⟩
 ·rcases g.ind i j s t hij hi hj with h | h
  ·left
   exact List.mem_filter.2 ⟨List.mem_range.2 (by rw [← hlen]; exact (List.getElem?_eq_some_iff.1 hi).1), h⟩
  ·exact .inr h
 ·have := g.n0 j s hj
  have := r.n0
  omega
 ·refine hK _ _ _ _ hk ⟨β', ⟨?_, hdom, by have := r.n0; have := g.hl; omega⟩⟩
  have e1 := g.hE; have e2 := g.hH
  rw [← e1, ← e2] at rs'; exact rs'
 ·have : ∀ i ∈ List.range ops.size, (!(Array.replicate ops.size false).getD i false) = true := fun i hi => by
    have : (Array.replicate ops.size false).getD i false = false := by
     rw [Array.getD_eq_getD_getElem?, Array.getElem?_replicate]; split <;> rfl
    rw [this]; rfl
  rw [List.countP_eq_length.2 this]; simp
 ·have : (Array.replicate ops.size false).getD j false = false := by
    rw [Array.getD_eq_getD_getElem?, Array.getElem?_replicate]; split <;> rfl
  rw [this] at hl; cases hl
 ·have : (fun i => (Array.replicate ops.size false).getD i false) = fun _ => false := by
    funext i; rw [Array.getD_eq_getD_getElem?, Array.getElem?_replicate]; split <;> rfl
  rw [this]
  have e1 : selE (fun _ => false) recs E.get = E.get := by funext t; exact sel_none _ _ recs 0 _ (fun _ _ _ _ => rfl)
  have e2 : selH (fun _ => false) recs H.get = H.get := by funext t; exact sel_none _ _ recs 0 _ (fun _ _ _ _ => rfl)
  rw [e1, e2]; exact hnod
theorem draw_wp (hC : Ok L C) {ops : Array Oper} {ais : List AI} {id : Nat} {Q : Exit → Act → World → Prop} {K : Env → Heap → Prop} (hais : C.T.opers N ops true 0 ops.toList = some ais) {E : Env} {H : Heap} {a : Act} {w : World} (r : RSx C B N E H a w) (hP : dopsP L ais [] [] K E H)
    (hK : ∀ a' w' E' H', K E' H' → RSx C B N E' H' a' w' → Q .normal a' w') : (Code.region id ops true).wpIn B.fw 0 C.T.P Q a w := draw_wpS hC hais r (dopsS_of hP) hK
end
end Go.Proofs.YtigdhgbkgfagiaaGreat
