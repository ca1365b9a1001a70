/- AL: a contract that is shown in a small heap holds in every heap that holds a picture of it. -/
import Derived.Test.YtigdhgbkgfagiaaGreatZAlO
set_option linter.unusedVariables false
namespace Go.Proofs.YtigdhgbkgfagiaaGreat
theorem outσ_lt {n : Nat} {src : List Nat} {i a : Nat} (h : src[i]? = some a) : outσ n src i = .to a := by simp [outσ, h]
theorem outσ_ge {n : Nat} {src : List Nat} {i : Nat} (h : src.length ≤ i) : outσ n src i = .to (n + (i - src.length)) := by
 unfold outσ; rw [List.getElem?_eq_none h]
theorem posIn_map {src : List Nat} {a i : Nat} (h : posIn (src.map some) a 0 = some i) : src[i]? = some a := by
 have := (posIn_spec h).2
 simp only [Nat.sub_zero, List.getElem?_map] at this
 cases hq : src[i]? with
 | none => rw [hq] at this; cases this
 | some x => rw [hq] at this; simp at this; rw [this]
def backF (h : Nat → Option Blk) (n : Nat) (src : List Nat) (h' : Heap) (a : Nat) : Option Blk :=
 match posIn (src.map some) a 0 with
 | some i => (h'.get i).map (Blk.ren (outσ n src))
 | none => if n ≤ a ∧ a < n + (h'.length - src.length) then (h'.get (src.length + (a - n))).map (Blk.ren (outσ n src)) else h a
def Tgt.sub (src : List (Option Nat)) : Tgt → Option Tgt
 | .fn k => some (.fn k)
 | .yl a => (posIn src a 0).map .yl
theorem RunAt.of_sub {C : Ctx} {β : Nat → Option Nat} {src : List (Option Nat)} {t t' : Tgt} (ht : t.sub src = some t') {xs : Array Value} {w : World} {R : Ending → World → Prop} (h : RunAt C (shβ src β) t' xs w R) : RunAt C β t xs w R := by
 cases t with
 | fn k => simp [Tgt.sub] at ht; subst ht; exact h
 | yl a =>
  simp only [Tgt.sub, Option.map_eq_some_iff] at ht
  obtain ⟨i, hi, rfl⟩ := ht
  intro l hl
  refine h l ?_
  have := (posIn_spec hi).2
  rw [Nat.sub_zero] at this
  rw [shβ_to this]; exact hl
theorem frame_fn {L : Lib} {k k' : Tgt} {vs : List V} {H : Heap} {P : V → Heap → Prop} (src bor : List Nat) (hn : nodupO (src.map some) = true) (ht : k.sub (src.map some) = some k') (hP : AFn L k' (vs.map (V.ren (sgOf H (src.map some) bor))) (H.sh (src.map some) bor) P)
    {C : Ctx} (hC : Ok L C) {A : Nat → Prop} {w : World} {β : Nat → Option Nat} {xs : Array Value} {h : Nat → Option Blk} {n : Nat} (hA : ∀ b, w.heap.size ≤ b ∨ Live β h b → A b) (hh : HeapR A C.N w β h) (hg : GlobR A C w β h) (ha : RArgs C w (Imm A w β h) β vs xs)
    (hag : Agr H h (src.map some) bor) (hlt : ∀ a ∈ src, a < n) (hout' : ∀ r h', P r h' → outOk bor r h' = true ∧ ∀ i, n ≤ i → i < n + (h'.length - src.length) → β i = none) :
    RunAt C β k xs w fun e w' => ∃ v r h' β', e = .returned v ∧ P r h' ∧ src.length ≤ h'.length ∧ (∀ a, ¬ (n ≤ a ∧ a < n + (h'.length - src.length)) → β' a = β a) ∧ (∀ a b, β a = some b → β' a = some b) ∧ HeapR A C.N w' β' (backF h n src h') ∧
     Rel C.N w' (Imm A w' β' (backF h n src h')) β' (r.ren (outσ n src)) v ∧ (∀ b, Live β' (backF h n src h') b → w.heap.size ≤ b ∨ Live β h b) ∧ Frm (Live β h) w w' := by
 have hclen : (H.sh (src.map some) bor).length = src.length := by simp [Heap.sh]
 have hlive : ∀ b, Live (shβ (src.map some) β) (H.sh (src.map some) bor).get b → Live β h b := fun b hb => by
  obtain ⟨k, a, h1, h2, h3⟩ := sh_live hag hb
  exact ⟨a, h2, h3⟩
 let Ac : Nat → Prop := fun b => Imm A w β h b ∨ (∃ a, bor.contains a = true ∧ posIn (src.map some) a 0 = none ∧ h a ≠ none ∧ β a = some b) ∨ w.heap.size ≤ b ∨ Live (shβ (src.map some) β) (H.sh (src.map some) bor).get b
 have himm : ∀ b, Imm A w β h b → Imm Ac w (shβ (src.map some) β) (H.sh (src.map some) bor).get b := fun b hb => ⟨hb.lt, fun h => hb.free (hlive b h), .inl hb, hb.arr⟩
 have hren : RenOk C.N w (Imm Ac w (shβ (src.map some) β) (H.sh (src.map some) bor).get) (sgOf H (src.map some) bor) β (shβ (src.map some) β) := sh_renOk hag hh himm (fun a b s rows h1 h2 h3 h4 => by
  have h3' : h a ≠ none := by rw [h3]; simp
  obtain ⟨b', g1, g2, g3⟩ := hh.at' a _ h3
  rw [h4] at g1; cases g1
  refine ⟨g2, fun hl => ?_, .inr (.inl ⟨a, h1, h2, h3', h4⟩), ?_⟩
  rotate_left
  ·obtain ⟨cells, T, fz', q1, _⟩ := g3
   exact ⟨cells, T, fz', q1⟩
  ·obtain ⟨k, a', g1, g2, g3⟩ := sh_live hag hl
   have := hh.inj a a' b h3' g2 h4 g3
   subst this
   exact posIn_none h2 k g1)
 have hcell : ∀ i a, src[i]? = some a → (src.map some)[i]? = some (some a) := fun i a h => by rw [List.getElem?_map, h]; rfl
 refine RunAt.mono (RunAt.of_sub ht (hP C hC Ac w (shβ (src.map some) β) xs (fun b hb => hb.elim (fun h => .inr (.inr (.inl h))) (fun h => .inr (.inr (.inr h)))) (fun a ha' => ?_) (sh_heap hag hn hh himm hren) (fun g k v h1 h2 => (hg g k v h1 h2).mono himm (fun _ _ => rfl) (fun _ _ h => h) (fun _ _ h => h)) ⟨by simpa using ha.1, fun i v x hv hx => ?_⟩)) ?_
 ·rw [hclen] at ha'
  have : (src.map some)[a]? = none := List.getElem?_eq_none (by simpa using ha')
  simp [shβ, this]
 ·rw [List.getElem?_map] at hv
  cases hq : vs[i]? with
  | none => rw [hq] at hv; cases hv
  | some v0 => rw [hq] at hv; simp at hv; rw [← hv]; exact (ha.2 i v0 x hq hx).ren himm hren
 rintro e w' ⟨v, r0, h', βc', rfl, hPr, g1, g2, g3, g4, g5, g6, g7⟩
 obtain ⟨hout, hfresh⟩ := hout' r0 h' hPr
 rw [hclen] at g1 g3
 let β' : Nat → Option Nat := fun a => if n ≤ a ∧ a < n + (h'.length - src.length) then βc' (src.length + (a - n)) else β a
 have hβold : ∀ a, ¬ (n ≤ a ∧ a < n + (h'.length - src.length)) → β' a = β a := fun a h => if_neg h
 have hβnew : ∀ a, n ≤ a ∧ a < n + (h'.length - src.length) → β' a = βc' (src.length + (a - n)) := fun a h => if_pos h
 have hβsub : ∀ a b, β a = some b → β' a = some b := fun a b hab => by
  by_cases c : n ≤ a ∧ a < n + (h'.length - src.length)
  ·rw [hfresh a c.1 c.2] at hab; cases hab
  ·rw [hβold a c]; exact hab
 have hβsrc : ∀ i a, src[i]? = some a → β' a = βc' i := fun i a hi => by
  rw [hβold a (by have := hlt a (List.mem_of_getElem? hi); omega), g3 i (List.getElem?_eq_some_iff.1 hi).1, shβ_to (hcell i a hi)]
 have hcase : ∀ a b, backF h n src h' a ≠ none → β' a = some b →
     (∃ i, h'.get i ≠ none ∧ βc' i = some b ∧ (src[i]? = some a ∨ src.length ≤ i ∧ a = n + (i - src.length))) ∨ (posIn (src.map some) a 0 = none ∧ h a ≠ none ∧ β a = some b) := fun a b h1 h2 => by
  unfold backF at h1
  cases hp : posIn (src.map some) a 0 with
  | some i =>
   rw [hp] at h1
   simp only at h1
   left
   exact ⟨i, fun e => h1 (by rw [e]; rfl), by rw [← hβsrc i a (posIn_map hp)]; exact h2, .inl (posIn_map hp)⟩
  | none =>
   rw [hp] at h1
   simp only at h1
   by_cases c : n ≤ a ∧ a < n + (h'.length - src.length)
   ·rw [if_pos c] at h1
    left
    exact ⟨src.length + (a - n), fun e => h1 (by rw [e]; rfl), by rw [← hβnew a c]; exact h2, .inr ⟨by omega, by omega⟩⟩
   ·rw [if_neg c] at h1
    right
    exact ⟨rfl, h1, by rw [← hβold a c]; exact h2⟩
 have honly : ∀ a b, posIn (src.map some) a 0 = none → h a ≠ none → β a = some b → b < w.heap.size ∧ ¬ Live (shβ (src.map some) β) (H.sh (src.map some) bor).get b := fun a b h1 h2 h3 => by
  obtain ⟨bk, hb⟩ := Option.ne_none_iff_exists'.1 h2
  obtain ⟨b', q1, q2, _⟩ := hh.at' a bk hb
  rw [h3] at q1; cases q1
  refine ⟨q2, fun hl => ?_⟩
  obtain ⟨k, a', p1, p2, p3⟩ := sh_live hag hl
  have := hh.inj a a' b h2 p2 h3 p3
  subst this
  exact posIn_none h1 k p1
 have hlive' : ∀ b, Live β' (backF h n src h') b → w.heap.size ≤ b ∨ Live β h b := fun b ⟨a, h1, h2⟩ => by
  rcases hcase a b h1 h2 with ⟨i, q1, q2, _⟩ | ⟨_, q3, q4⟩
  ·rcases g6 b ⟨i, q1, q2⟩ with q | q
   ·exact .inl q
   ·exact .inr (hlive b q)
  ·exact .inr ⟨a, q3, q4⟩
 have hfrm : Frm (Live β h) w w' := ⟨g7.os, g7.tape, g7.output, g7.size, fun b hb hl => g7.block b hb (fun h => hl (hlive b h)), g7.room⟩
 have himm2 : ∀ b, Imm A w β h b → Imm A w' β' (backF h n src h') b ∧ w'.heap[b]? = w.heap[b]? := fun b hb => imm_frame hfrm hlive' b hb
 have hSc : bor = [] → ∀ b, Imm Ac w' βc' h'.get b → Imm A w' β' (backF h n src h') b := fun hbor b hb => by
  refine ⟨hb.lt, fun ⟨a, h1, h2⟩ => ?_, ?_, hb.arr⟩
  ·rcases hcase a b h1 h2 with ⟨i, q1, q2, _⟩ | ⟨q2, q3, q4⟩
   ·exact hb.free ⟨i, q1, q2⟩
   ·obtain ⟨p1, p2⟩ := honly a b q2 q3 q4
    rcases hb.al with h | ⟨a', h, _⟩ | h | h
    ·exact h.free ⟨a, q3, q4⟩
    ·rw [hbor] at h; simp at h
    ·omega
    ·exact p2 h
  ·rcases hb.al with h | ⟨a', h, _⟩ | h | h
   ·exact h.al
   ·rw [hbor] at h; simp at h
   ·exact hA b (.inl h)
   ·exact hA b (.inr (hlive b h))
 have hro : ∀ S', RenOk C.N w' S' (outσ n src) βc' β' := fun S' => by
  refine ⟨fun i a' b h1 h2 => ?_, fun i size rows b h1 => ?_⟩
  ·by_cases c : i < src.length
   ·have hi : src[i]? = some src[i] := List.getElem?_eq_getElem c
    rw [outσ_lt hi] at h1
    cases h1
    rw [hβsrc i _ hi]; exact h2
   ·rw [outσ_ge (by omega)] at h1
    cases h1
    have hi : i < h'.length := by
     rcases Nat.lt_or_ge i h'.length with h3 | h3
     ·exact h3
     ·rw [g2 i h3] at h2; cases h2
    rw [hβnew _ ⟨by omega, by omega⟩, show src.length + (n + (i - src.length) - n) = i by omega]; exact h2
  ·by_cases c : i < src.length
   ·rw [outσ_lt (List.getElem?_eq_getElem c)] at h1; cases h1
   ·rw [outσ_ge (by omega)] at h1; cases h1
 have hbor : bor = [] ∨ (r0.noLst = true ∧ ∀ i k, h'.get i = some k → k.noLst = true) := by
  unfold outOk at hout
  rw [Bool.or_eq_true] at hout
  rcases hout with h1 | h1
  ·left; simpa using h1
  ·right
   rw [Bool.and_eq_true, List.all_eq_true] at h1
   refine ⟨h1.1, fun i k hk => ?_⟩
   unfold Heap.get at hk
   cases hq : h'[i]? with
   | none => rw [hq] at hk; cases hk
   | some o =>
    rw [hq] at hk
    simp at hk
    subst hk
    exact h1.2 _ (List.mem_of_getElem? hq)
 have hblk : ∀ i k b, h'.get i = some k → BlkR C.N w' (Imm Ac w' βc' h'.get) βc' k b → BlkR C.N w' (Imm A w' β' (backF h n src h')) β' (k.ren (outσ n src)) b := fun i k b hk hb => by
  rcases hbor with h1 | ⟨_, h1⟩
  ·exact hb.ren (hSc h1) (hro _)
  ·exact (hb.of_noLst (S' := Imm A w' β' (backF h n src h')) (h1 i k hk)).ren (fun _ h => h) (hro _)
 refine ⟨v, r0, h', β', rfl, hPr, by omega, fun a ha' => hβold a ha', hβsub, ⟨fun a k hk => ?_, fun a1 a2 b h1 h2 h3 h4 => ?_⟩, ?_, hlive', hfrm⟩
 ·have hk0 := hk
  unfold backF at hk
  cases hp : posIn (src.map some) a 0 with
  | some i =>
   rw [hp] at hk
   simp only [Option.map_eq_some_iff] at hk
   obtain ⟨k0, hk0', rfl⟩ := hk
   obtain ⟨b, q1, q2, q3⟩ := g4.at' i k0 hk0'
   exact ⟨b, by rw [hβsrc i a (posIn_map hp)]; exact q1, q2, hblk i k0 b hk0' q3⟩
  | none =>
   rw [hp] at hk
   simp only at hk
   by_cases c : n ≤ a ∧ a < n + (h'.length - src.length)
   ·rw [if_pos c] at hk
    simp only [Option.map_eq_some_iff] at hk
    obtain ⟨k0, hk0', rfl⟩ := hk
    obtain ⟨b, q1, q2, q3⟩ := g4.at' _ k0 hk0'
    exact ⟨b, by rw [hβnew a c]; exact q1, q2, hblk _ k0 b hk0' q3⟩
   ·rw [if_neg c] at hk
    obtain ⟨b, q1, q2, q3⟩ := hh.at' a k hk
    obtain ⟨p1, p2⟩ := honly a b hp (by rw [hk]; simp) q1
    exact ⟨b, by rw [hβold a c]; exact q1, Nat.lt_of_lt_of_le q2 g7.size, q3.mono (g7.block b p1 p2) (fun b hb => (himm2 b hb).1) (fun b hb => (himm2 b hb).2) g7.room hβsub⟩
 ·rcases hcase a1 b h1 h3 with ⟨i, q1, q2, q3⟩ | ⟨q2, q3, q4⟩ <;> rcases hcase a2 b h2 h4 with ⟨j, p1, p2, p3⟩ | ⟨p2, p3, p4⟩
  ·have := g4.inj i j b q1 p1 q2 p2
   subst this
   rcases q3 with q3 | ⟨q3, q5⟩ <;> rcases p3 with p3 | ⟨p3, p5⟩
   ·rw [q3] at p3; cases p3; rfl
   ·have := (List.getElem?_eq_some_iff.1 q3).1; omega
   ·have := (List.getElem?_eq_some_iff.1 p3).1; omega
   ·omega
  ·obtain ⟨o1, o2⟩ := honly a2 b p2 p3 p4
   rcases g6 b ⟨i, q1, q2⟩ with q | q
   ·omega
   ·exact absurd q o2
  ·obtain ⟨o1, o2⟩ := honly a1 b q2 q3 q4
   rcases g6 b ⟨j, p1, p2⟩ with q | q
   ·omega
   ·exact absurd q o2
  ·exact hh.inj a1 a2 b q3 p3 q4 p4
 ·rcases hbor with h1 | ⟨h1, _⟩
  ·exact g5.ren (hSc h1) (hro _)
  ·exact (g5.of_noLst (S' := Imm A w' β' (backF h n src h')) h1).ren (fun _ h => h) (hro _)
theorem AFn.frame {L : Lib} {k k' : Tgt} {vs : List V} {H : Heap} {Post : V → Heap → Prop} (src bor : List Nat) (ht : k.sub (src.map some) = some k') (hn : nodupO (src.map some) = true) (hlt : (src.all fun a => Nat.blt a H.length) = true)
    (h : AFn L k' (vs.map (V.ren (sgOf H (src.map some) bor))) (H.sh (src.map some) bor) (fun r h' => outOk bor r h' = true ∧ Post (r.ren (outσ H.length src)) (H.back src h'))) : AFn L k vs H Post := by
 intro C hC A w β xs hA hd hh hg ha
 have hlt' : ∀ a ∈ src, a < H.length := fun a h => by simpa using List.all_eq_true.1 hlt a h
 refine (frame_fn (n := H.length) src bor hn ht h hC hA hh hg ha (Agr.self H _ _) hlt' (fun r h' hp => ⟨hp.1, fun i hi _ => hd i hi⟩)).mono ?_
 rintro e w' ⟨v, r0, h', β', rfl, ⟨_, hpost⟩, g1, g2, g3, g4, g5, g6, g7⟩
 have hb : backF H.get H.length src h' = (H.back src h').get := by
  funext a
  rw [back_get H src h' hlt']
  unfold backF
  by_cases c : a < H.length
  ·rw [if_pos c]
   cases posIn (src.map some) a 0 with
   | some i => rfl
   | none => simp only; rw [if_neg (by omega)]
  ·rw [if_neg c]
   cases hp : posIn (src.map some) a 0 with
   | some i => exact absurd (hlt' a (List.mem_of_getElem? (posIn_map hp))) c
   | none =>
    simp only
    by_cases c2 : H.length ≤ a ∧ a < H.length + (h'.length - src.length)
    ·rw [if_pos c2]
    ·rw [if_neg c2]
     have e1 : H.get a = none := by unfold Heap.get; rw [List.getElem?_eq_none (by omega)]; rfl
     have e2 : h'.get (src.length + (a - H.length)) = none := by unfold Heap.get; rw [List.getElem?_eq_none (by omega)]; rfl
     rw [e1, e2]; rfl
 rw [hb] at g4 g5 g6
 refine ⟨v, _, _, β', rfl, hpost, by rw [back_length]; omega, fun a ha' => ?_, fun a ha' => g2 a (by omega), g4, g5, g6, g7⟩
 rw [back_length] at ha'
 rw [g2 a (by omega)]; exact hd a (by omega)
end Go.Proofs.YtigdhgbkgfagiaaGreat
