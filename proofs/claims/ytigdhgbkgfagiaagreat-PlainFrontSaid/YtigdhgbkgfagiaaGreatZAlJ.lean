/- AL: an operation looks at its operands and at the blocks that it names, at nothing else. -/
import Derived.Test.YtigdhgbkgfagiaaGreatZAlI
set_option linter.unusedVariables false
namespace Go.Proofs.YtigdhgbkgfagiaaGreat
def AOp.opds : AOp → List AOpd
 | .mov x | .box x | .nilchk x | .isnil _ _ x | .clr _ _ x | .un _ x | .conv _ x | .same x | .bytes x | .string x | .mkiface _ x | .fa x _ | .fld x _ _ _ | .ext x _ | .len x | .slen x | .cap x | .load _ _ x => [x]
 | .pick c a b => [c, a, b]
 | .alloc _ | .no => []
 | .build _ ps => ps.map (·.2.2)
 | .bslice _ _ _ ps => ps.map (·.2)
 | .store _ p x | .bin _ p x | .acmp _ _ p x | .beq _ p x | .ia _ p x | .iaa _ _ p x | .chr p x | .idx _ _ _ p x | .append _ _ p x | .copy _ p x | .mkslice _ _ _ p x | .xfn _ p x => [p, x]
 | .mkfn _ a b => a ++ b
 | .slice _ x a b c => x :: (a.toList ++ b.toList ++ c.toList)
 | .slicea _ _ x a b c => x :: (a.toList ++ b.toList ++ c.toList)
 | .substr x a b => x :: (a.toList ++ b.toList)
 | .min xs | .max xs => xs
 | .mkmap r => r.toList
 | .mget _ _ _ m k | .mdel _ m k => [m, k]
 | .mset _ m k x => [m, k, x]
 | .mlen m | .mrange m | .srange m | .mnext m | .snext m | .mentry m => [m]
 | .mapent _ _ m k => [m, k]
 | .entstore m st x => [m, st, x]
 | .call c args => (match c with | .fn _ => [] | .dyn x => [x] | .meth x _ => [x]) ++ args
def AOpd.tmps : AOpd → List Nat
 | .t n => [n]
 | _ => []
section
variable {ρ ρ' : AOpd → Option V}
theorem evals_congr : ∀ {xs : List AOpd}, (∀ x ∈ xs, ρ' x = ρ x) → evals ρ' xs = evals ρ xs
 | [], _ => rfl
 | x :: xs, h => by
  simp only [evals]
  rw [h x (by simp), evals_congr (fun y hy => h y (by simp [hy]))]
theorem evalParts_congr : ∀ {xs : List (Nat × Nat × AOpd)}, (∀ x ∈ xs.map (·.2.2), ρ' x = ρ x) → evalParts ρ' xs = evalParts ρ xs
 | [], _ => rfl
 | (a, b, x) :: xs, h => by
  simp only [evalParts]
  rw [h x (by simp), evalParts_congr (fun y hy => h y (by simp at hy ⊢; exact .inr hy))]
theorem evalParts1_congr : ∀ {xs : List (Nat × AOpd)}, (∀ x ∈ xs.map (·.2), ρ' x = ρ x) → evalParts1 ρ' xs = evalParts1 ρ xs
 | [], _ => rfl
 | (a, x) :: xs, h => by
  simp only [evalParts1]
  rw [h x (by simp), evalParts1_congr (fun y hy => h y (by simp at hy ⊢; exact .inr hy))]
theorem optNat?_congr {x : Option AOpd} (h : ∀ y ∈ x.toList, ρ' y = ρ y) : optNat? ρ' x = optNat? ρ x := by
 cases x with
 | none => rfl
 | some x => simp only [optNat?]; rw [h x (by simp)]
theorem optNat_congr {d : Nat} {x : Option AOpd} (h : ∀ y ∈ x.toList, ρ' y = ρ y) : optNat ρ' d x = optNat ρ d x := by
 cases x with
 | none => rfl
 | some x => simp only [optNat]; rw [h x (by simp)]
theorem exec_rho0 (n : Nat) (get : Nat → Option Blk) (ao : AOp) (h : ∀ x ∈ ao.opds, ρ' x = ρ x) : ao.exec0 n get ρ' = ao.exec0 n get ρ := by
 cases ao with
 | pick c a b => simp only [AOp.exec0]; rw [h c (by simp [AOp.opds]), h a (by simp [AOp.opds]), h b (by simp [AOp.opds])]
 | alloc z => rfl
 | no => rfl
 | build z ps => simp only [AOp.exec0]; rw [evalParts_congr (by simpa [AOp.opds] using h)]
 | bslice s z l ps => simp only [AOp.exec0]; rw [evalParts1_congr (by simpa [AOp.opds] using h)]
 | mkfn f a b => simp only [AOp.exec0]; rw [evals_congr (fun x hx => h x (by simp [AOp.opds, hx])), evals_congr (fun x hx => h x (by simp [AOp.opds, hx]))]
 | slice s x a b c => simp only [AOp.exec0]; rw [h x (by simp [AOp.opds]), optNat?_congr (fun y hy => h y (by simp only [AOp.opds, List.mem_cons, List.mem_append]; exact .inr (.inl (.inl hy)))), optNat?_congr (fun y hy => h y (by simp only [AOp.opds, List.mem_cons, List.mem_append]; exact .inr (.inl (.inr hy)))), optNat?_congr (fun y hy => h y (by simp only [AOp.opds, List.mem_cons, List.mem_append]; exact .inr (.inr hy)))]
 | slicea s m x a b c => simp only [AOp.exec0]; rw [h x (by simp [AOp.opds]), optNat?_congr (fun y hy => h y (by simp only [AOp.opds, List.mem_cons, List.mem_append]; exact .inr (.inl (.inl hy)))), optNat?_congr (fun y hy => h y (by simp only [AOp.opds, List.mem_cons, List.mem_append]; exact .inr (.inl (.inr hy)))), optNat?_congr (fun y hy => h y (by simp only [AOp.opds, List.mem_cons, List.mem_append]; exact .inr (.inr hy)))]
 | substr x a b =>
  have e1 : optNat ρ' 0 a = optNat ρ 0 a := optNat_congr (fun y hy => h y (by simp only [AOp.opds, List.mem_cons, List.mem_append]; exact .inr (.inl hy)))
  have e2 : ∀ d, optNat ρ' d b = optNat ρ d b := fun d => optNat_congr (fun y hy => h y (by simp only [AOp.opds, List.mem_cons, List.mem_append]; exact .inr (.inr hy)))
  simp only [AOp.exec0]; rw [h x (by simp [AOp.opds]), e1]; simp only [e2]
 | min xs => simp only [AOp.exec0]; rw [evals_congr (by simpa [AOp.opds] using h)]
 | max xs => simp only [AOp.exec0]; rw [evals_congr (by simpa [AOp.opds] using h)]
 | call c args => rfl
 | mkmap r =>
  cases r with
  | none => rfl
  | some x => simp only [AOp.exec0]; rw [h x (by simp [AOp.opds])]
 | mget c z o m k => simp only [AOp.exec0]; rw [h m (by simp [AOp.opds]), h k (by simp [AOp.opds])]
 | mdel c m k => simp only [AOp.exec0]; rw [h m (by simp [AOp.opds]), h k (by simp [AOp.opds])]
 | mset c m k x => simp only [AOp.exec0]; rw [h m (by simp [AOp.opds]), h k (by simp [AOp.opds]), h x (by simp [AOp.opds])]
 | mlen m => simp only [AOp.exec0]; rw [h m (by simp [AOp.opds])]
 | mrange m => simp only [AOp.exec0]; rw [h m (by simp [AOp.opds])]
 | srange m => simp only [AOp.exec0]; rw [h m (by simp [AOp.opds])]
 | mnext m => simp only [AOp.exec0]; rw [h m (by simp [AOp.opds])]
 | snext m => simp only [AOp.exec0]; rw [h m (by simp [AOp.opds])]
 | mentry m => simp only [AOp.exec0]; rw [h m (by simp [AOp.opds])]
 | mapent c z m k => simp only [AOp.exec0]; rw [h m (by simp [AOp.opds]), h k (by simp [AOp.opds])]
 | entstore m k x => simp only [AOp.exec0]; rw [h m (by simp [AOp.opds]), h k (by simp [AOp.opds]), h x (by simp [AOp.opds])]
 | store k p x => simp only [AOp.exec0]; rw [h p (by simp [AOp.opds]), h x (by simp [AOp.opds])]
 | bin o p x => simp only [AOp.exec0]; rw [h p (by simp [AOp.opds]), h x (by simp [AOp.opds])]
 | acmp s o p x => simp only [AOp.exec0]; rw [h p (by simp [AOp.opds]), h x (by simp [AOp.opds])]
 | beq o p x => simp only [AOp.exec0]; rw [h p (by simp [AOp.opds]), h x (by simp [AOp.opds])]
 | ia o p x => simp only [AOp.exec0]; rw [h p (by simp [AOp.opds]), h x (by simp [AOp.opds])]
 | iaa o l p x => simp only [AOp.exec0]; rw [h p (by simp [AOp.opds]), h x (by simp [AOp.opds])]
 | chr p x => simp only [AOp.exec0]; rw [h p (by simp [AOp.opds]), h x (by simp [AOp.opds])]
 | xfn k p x => simp only [AOp.exec0]; rw [h p (by simp [AOp.opds]), h x (by simp [AOp.opds])]
 | idx s l f p x => simp only [AOp.exec0]; rw [h p (by simp [AOp.opds]), h x (by simp [AOp.opds])]
 | append s b p x => simp only [AOp.exec0]; rw [h p (by simp [AOp.opds]), h x (by simp [AOp.opds])]
 | copy s p x => simp only [AOp.exec0]; rw [h p (by simp [AOp.opds]), h x (by simp [AOp.opds])]
 | mkslice s b z p x => simp only [AOp.exec0]; rw [h p (by simp [AOp.opds]), h x (by simp [AOp.opds])]
 | mov x => simp only [AOp.exec0]; rw [h x (by simp [AOp.opds])]
 | box x => simp only [AOp.exec0]; rw [h x (by simp [AOp.opds])]
 | nilchk x => simp only [AOp.exec0]; rw [h x (by simp [AOp.opds])]
 | un o x => simp only [AOp.exec0]; rw [h x (by simp [AOp.opds])]
 | clr s z x => simp only [AOp.exec0]; rw [h x (by simp [AOp.opds])]
 | isnil c neg x => simp only [AOp.exec0]; rw [h x (by simp [AOp.opds])]
 | conv k x => simp only [AOp.exec0]; rw [h x (by simp [AOp.opds])]
 | same x => simp only [AOp.exec0]; rw [h x (by simp [AOp.opds])]
 | bytes x => simp only [AOp.exec0]; rw [h x (by simp [AOp.opds])]
 | string x => simp only [AOp.exec0]; rw [h x (by simp [AOp.opds])]
 | mkiface t x => simp only [AOp.exec0]; rw [h x (by simp [AOp.opds])]
 | fa x o => simp only [AOp.exec0]; rw [h x (by simp [AOp.opds])]
 | fld x o k l => simp only [AOp.exec0]; rw [h x (by simp [AOp.opds])]
 | ext x i => simp only [AOp.exec0]; rw [h x (by simp [AOp.opds])]
 | len x => simp only [AOp.exec0]; rw [h x (by simp [AOp.opds])]
 | slen x => simp only [AOp.exec0]; rw [h x (by simp [AOp.opds])]
 | cap x => simp only [AOp.exec0]; rw [h x (by simp [AOp.opds])]
 | load k l x => simp only [AOp.exec0]; rw [h x (by simp [AOp.opds])]
end
theorem rowsOf_congr {size : Nat} {get get' : Nat → Option Blk} {x : V} {rows : List (List V)} {nd : List Nat} (h : rowsOf size get x = some (rows, nd)) (hg : ∀ a ∈ nd, get' a = get a) : rowsOf size get' x = some (rows, nd) := by
 cases x with
 | ref a s o l c =>
  simp only [rowsOf] at h ⊢
  cases hk : get a with
  | none => rw [hk] at h; cases h
  | some k =>
   cases k with
   | loop => rw [hk] at h; cases h
   | stop => rw [hk] at h; cases h
   | map => rw [hk] at h; cases h
   | iter => rw [hk] at h; cases h
   | siter => rw [hk] at h; cases h
   | junk => rw [hk] at h; cases h
   | arr s2 r =>
    rw [hk] at h
    simp only at h
    split at h
    ·rename_i hc
     simp only [Option.some.injEq, Prod.mk.injEq] at h
     obtain ⟨e1, e2⟩ := h
     have := hg a (by rw [← e2]; simp)
     rw [this, hk]
     simp only [hc, and_self, if_true, e1, e2]
    ·cases h
 | lst => exact h
 | str => exact h
 | _ => simp [rowsOf] at h
theorem mapOf_congr {get get' : Nat → Option Blk} {m : V} {es : List (V × V)} {nd : List Nat} (h : mapOf get m = some (es, nd)) (hg : ∀ a ∈ nd, get' a = get a) : mapOf get' m = some (es, nd) := by
 cases m with
 | nilm => exact h
 | mapp a =>
  simp only [mapOf] at h ⊢
  split at h
  ·rename_i es' bs' clk' hk
   simp only [Option.some.injEq, Prod.mk.injEq] at h
   obtain ⟨e1, e2⟩ := h
   rw [hg a (by rw [← e2]; simp), hk]
   simp only [e1, e2]
  ·cases h
 | _ => simp [mapOf] at h
theorem nextE_congr {get get' : Nat → Option Blk} {x : V} {l : List Eff} {e : Eff} (h : nextE get x = some l) (hm : e ∈ l) (hg : ∀ a ∈ e.need, get' a = get a) : nextE get' x = some l := by
 unfold nextE at h ⊢
 split at h
 case h_2 => cases h
 rename_i r
 try simp only
 split at h
 ·rename_i since seen last hr
  simp only [Option.some.injEq] at h
  subst h
  rw [List.mem_singleton] at hm
  subst hm
  rw [hg r (by simp), hr]
 ·rename_i m since seen last hr
  split at h
  case h_2 => cases h
  rename_i es bs clk hk
  split at h
  case isFalse => cases h
  rename_i hc
  have hn : e.need = [r, m] := by
   split at h
   ·simp only [Option.some.injEq] at h; subst h; rw [List.mem_singleton] at hm; rw [hm]
   ·simp only [Option.some.injEq] at h; subst h
    obtain ⟨c, _, rfl⟩ := List.mem_map.1 hm; rfl
  rw [hg r (by rw [hn]; simp), hr]
  try simp only
  rw [hg m (by rw [hn]; simp), hk]
  try simp only
  rw [if_pos hc]
  exact h
 ·cases h
theorem exec_get0 {n : Nat} {get get' : Nat → Option Blk} {ρ : AOpd → Option V} {ao : AOp} {e : Eff} (he : ao.exec0 n get ρ = some e) (hg : ∀ a ∈ e.need, get' a = get a) : ao.exec0 n get' ρ = some e := by
 cases ao with
 | load k leaf p =>
  simp only [AOp.exec0, Option.bind_eq_some_iff] at he ⊢
  obtain ⟨v, hv, he⟩ := he
  refine ⟨v, hv, ?_⟩
  unfold loadV at he ⊢
  split at he
  ·rename_i a size i o
   split at he
   ·rename_i size' rows hk
    split at he
    ·rename_i hs
     have h0 := he
     simp only [Option.bind_eq_some_iff] at he
     obtain ⟨row, _, v', _, he⟩ := he
     simp only [Option.some.injEq] at he
     have := hg a (by rw [← he]; simp)
     simp only [this, hk, hs, if_true]
     exact h0
    ·cases he
   ·cases he
  ·exact he
  ·cases he
 | store k p x =>
  simp only [AOp.exec0, Option.bind_eq_some_iff] at he ⊢
  obtain ⟨v, hv, v2, hv2, he⟩ := he
  refine ⟨v, hv, v2, hv2, ?_⟩
  unfold storeV at he ⊢
  split at he
  ·rename_i a size i o
   split at he
   ·rename_i size' rows hk
    split at he
    ·rename_i hs
     have h0 := he
     simp only [Option.bind_eq_some_iff] at he
     obtain ⟨row, _, he⟩ := he
     split at he
     ·simp only [Option.some.injEq] at he
      have := hg a (by rw [← he]; simp)
      simp only [this, hk]
      rw [if_pos hs]; exact h0
     ·cases he
    ·cases he
   ·cases he
  ·cases he
 | mget c z o m k =>
  simp only [AOp.exec0, Option.bind_eq_some_iff] at he ⊢
  obtain ⟨v, hv, v2, hv2, he⟩ := he
  refine ⟨v, hv, v2, hv2, ?_⟩
  unfold mgetV at he ⊢
  split at he
  ·rename_i hk
   rw [if_pos hk]
   simp only [Option.bind_eq_some_iff] at he ⊢
   obtain ⟨⟨es, nd⟩, hm, r, hr, he⟩ := he
   simp only [Option.some.injEq] at he
   exact ⟨(es, nd), mapOf_congr hm (fun a ha => hg a (by rw [← he]; exact ha)), r, hr, by rw [he]⟩
  ·cases he
 | mset c m k x =>
  simp only [AOp.exec0, Option.bind_eq_some_iff] at he ⊢
  obtain ⟨v, hv, v2, hv2, v3, hv3, he⟩ := he
  refine ⟨v, hv, v2, hv2, v3, hv3, ?_⟩
  unfold msetV at he ⊢
  split at he
  ·rename_i a
   split at he
   ·rename_i es bs clk hk
    split at he
    ·rename_i hc
     have h0 := he
     simp only [Option.bind_eq_some_iff] at he
     obtain ⟨r, hr, he⟩ := he
     simp only [Option.some.injEq] at he
     have := hg a (by rw [← he]; simp)
     simp only [this, hk, hc, if_true]; exact h0
    ·cases he
   ·cases he
  ·cases he
 | mdel c m k =>
  simp only [AOp.exec0, Option.bind_eq_some_iff] at he ⊢
  obtain ⟨v, hv, v2, hv2, he⟩ := he
  refine ⟨v, hv, v2, hv2, ?_⟩
  unfold mdelV at he ⊢
  split at he
  ·rename_i a
   split at he
   ·rename_i es bs clk hk
    split at he
    ·rename_i hc
     have h0 := he
     simp only [Option.bind_eq_some_iff] at he
     obtain ⟨r, hr, he⟩ := he
     simp only [Option.some.injEq] at he
     have := hg a (by rw [← he]; simp)
     simp only [this, hk, hc, if_true]; exact h0
    ·cases he
   ·cases he
  ·cases he
 | mrange x =>
  simp only [AOp.exec0, Option.bind_eq_some_iff] at he ⊢
  obtain ⟨v, hv, he⟩ := he
  refine ⟨v, hv, ?_⟩
  unfold mrangeV at he ⊢
  split at he
  ·exact he
  ·rename_i a
   try simp only
   split at he
   ·rename_i es bs clk hk
    have h0 := he
    simp only [Option.some.injEq] at he
    have := hg a (by rw [← he]; simp)
    rw [this, hk]; exact h0
   ·cases he
  ·cases he
 | mnext x =>
  simp only [AOp.exec0, Option.bind_eq_some_iff] at he ⊢
  obtain ⟨v, hv, he⟩ := he
  refine ⟨v, hv, ?_⟩
  unfold mnextV at he ⊢
  split at he
  ·rename_i e' hl
   simp only [Option.some.injEq] at he
   subst he
   rw [nextE_congr hl (List.mem_singleton_self _) hg]
  ·cases he
 | snext x =>
  simp only [AOp.exec0, Option.bind_eq_some_iff] at he ⊢
  obtain ⟨v, hv, he⟩ := he
  refine ⟨v, hv, ?_⟩
  unfold snextV at he ⊢
  split at he
  case h_2 => cases he
  rename_i r
  try simp only
  split at he
  case h_2 => cases he
  rename_i s pos hr
  have hn : e.need = [r] := by
   split at he
   ·simp only [Option.some.injEq] at he; rw [← he]
   ·simp only [Option.some.injEq] at he; rw [← he]
  rw [hg r (by rw [hn]; simp), hr]
  exact he
 | mentry x =>
  simp only [AOp.exec0, Option.bind_eq_some_iff] at he ⊢
  obtain ⟨v, hv, he⟩ := he
  refine ⟨v, hv, ?_⟩
  unfold mentryV at he ⊢
  split at he
  case h_2 => cases he
  rename_i r
  try simp only
  split at he
  case h_2 => cases he
  rename_i m since seen last hr
  split at he
  case h_2 => cases he
  rename_i es bs clk hm
  split at he
  case isFalse => cases he
  rename_i hc
  have h0 := he
  simp only [Option.bind_eq_some_iff, Option.some.injEq] at he
  obtain ⟨st, hst, i, hi, p, hp, he⟩ := he
  rw [hg r (by rw [← he]; simp), hr]
  try simp only
  rw [hg m (by rw [← he]; simp), hm]
  try simp only
  rw [if_pos hc]
  exact h0
 | mapent c z m k =>
  simp only [AOp.exec0, Option.bind_eq_some_iff] at he ⊢
  obtain ⟨v, hv, v2, hv2, he⟩ := he
  refine ⟨v, hv, v2, hv2, ?_⟩
  unfold mapentV at he ⊢
  split at he
  case h_2 => cases he
  rename_i a
  try simp only
  split at he
  case h_2 => cases he
  rename_i es bs clk hk
  split at he
  case isFalse => cases he
  rename_i hc
  have h0 := he
  simp only [Option.bind_eq_some_iff] at he
  obtain ⟨r, hr, he⟩ := he
  have hn : e.need = [a] := by
   split at he
   ·simp only [Option.some.injEq] at he; rw [← he]
   ·simp only [Option.some.injEq] at he; rw [← he]
  rw [hg a (by rw [hn]; simp), hk]
  try simp only
  rw [if_pos hc]
  exact h0
 | entstore m st x =>
  simp only [AOp.exec0, Option.bind_eq_some_iff] at he ⊢
  obtain ⟨v, hv, v2, hv2, v3, hv3, he⟩ := he
  refine ⟨v, hv, v2, hv2, v3, hv3, ?_⟩
  unfold entstoreV at he ⊢
  split at he
  case h_2 => cases he
  rename_i a bi
  try simp only
  split at he
  case h_2 => cases he
  rename_i es bs clk hk
  split at he
  case isFalse => cases he
  rename_i hc
  have h0 := he
  simp only [Option.bind_eq_some_iff, Option.some.injEq] at he
  obtain ⟨i, hi, p, hp, he⟩ := he
  rw [hg a (by rw [← he]; simp), hk]
  try simp only
  rw [if_pos hc]
  exact h0
 | mlen m =>
  simp only [AOp.exec0, Option.bind_eq_some_iff] at he ⊢
  obtain ⟨v, hv, ⟨es, nd⟩, hm, he⟩ := he
  simp only [Option.some.injEq] at he
  exact ⟨v, hv, (es, nd), mapOf_congr hm (fun a ha => hg a (by rw [← he]; exact ha)), by rw [he]⟩
 | string x =>
  simp only [AOp.exec0, Option.bind_eq_some_iff] at he ⊢
  obtain ⟨v, hv, u, hu, ⟨rows, nd⟩, hr, s, hs, he⟩ := he
  simp only [Option.some.injEq] at he
  exact ⟨v, hv, u, hu, ⟨rows, nd⟩, rowsOf_congr hr (fun a ha => hg a (by rw [← he]; exact ha)), s, hs, by rw [he]⟩
 | append size bts x y =>
  simp only [AOp.exec0, Option.bind_eq_some_iff] at he ⊢
  obtain ⟨v, hv, v2, hv2, he⟩ := he
  refine ⟨v, hv, v2, hv2, ?_⟩
  simp only [appendV, Option.bind_eq_some_iff] at he ⊢
  obtain ⟨⟨ys, ny⟩, hy, he⟩ := he
  have key : ∀ {e : Eff}, (∀ a ∈ ny, a ∈ e.need) → (∀ a ∈ e.need, get' a = get a) → rowsOf size get' v2 = some (ys, ny) := fun h1 h2 => rowsOf_congr hy (fun a ha => h2 a (h1 a ha))
  refine ⟨(ys, ny), ?_⟩
  cases v with
  | lst s r c =>
   simp only at he ⊢
   refine ⟨key (e := e) ?_ hg, he⟩
   intro a ha
   split at he
   ·simp only [Option.some.injEq] at he; rw [← he]; exact ha
   ·cases c with
    | none => simp at he
    | some c =>
     simp only at he
     split at he
     ·simp only [Option.some.injEq] at he; rw [← he]; exact ha
     ·cases he
  | ref a s o l c =>
   simp only at he ⊢
   have hneed : e.need = a :: ny := by
    cases hk : get a with
    | none => simp [hk] at he
    | some k =>
     cases k with
     | loop => simp [hk] at he
     | stop => simp [hk] at he
     | map => simp [hk] at he
     | iter => simp [hk] at he
     | siter => simp [hk] at he
     | junk => simp [hk] at he
     | arr s2 rows =>
      simp only [hk] at he
      split at he
      ·cases c with
       | none =>
        simp only at he
        split at he
        ·simp only [Option.some.injEq] at he; rw [← he]
        ·cases he
       | some c =>
        simp only at he
        split at he
        ·split at he
         ·simp only [Option.some.injEq] at he; rw [← he]
         ·cases he
        ·split at he
         ·simp only [Option.some.injEq] at he; rw [← he]
         ·cases he
      ·cases he
   refine ⟨key (e := e) (fun b hb => by rw [hneed]; simp [hb]) hg, ?_⟩
   rw [hg a (by rw [hneed]; simp)]; exact he
  | _ => simp at he
 | clr size z x =>
  simp only [AOp.exec0, Option.bind_eq_some_iff] at he ⊢
  obtain ⟨v, hv, he⟩ := he
  refine ⟨v, hv, ?_⟩
  unfold clrV at he ⊢
  split at he
  ·exact he
  ·rename_i a s o l c
   split at he
   ·rename_i s2 rows hk
    split at he
    ·rename_i hc
     have h0 := he
     simp only [Option.some.injEq] at he
     have := hg a (by rw [← he]; simp)
     simp only [this, hk]
     rw [if_pos hc]; exact h0
    ·cases he
   ·cases he
  ·cases he
 | slicea size m x lo hi mx =>
  simp only [AOp.exec0, Option.bind_eq_some_iff] at he ⊢
  obtain ⟨v, hv, he⟩ := he
  refine ⟨v, hv, ?_⟩
  unfold sliceaV at he ⊢
  split at he
  ·rename_i a s i o
   split at he
   ·rename_i s2 rows hk
    split at he
    ·rename_i l h' m' q1 q2 q3
     have h0 := he
     simp only at he
     split at he
     ·simp only [Option.some.injEq] at he
      have := hg a (by rw [← he]; simp)
      simp only [this, hk]
      exact h0
     ·cases he
    ·cases he
   ·cases he
  ·cases he
 | copy size x y =>
  simp only [AOp.exec0, Option.bind_eq_some_iff] at he ⊢
  obtain ⟨v, hv, v2, hv2, he⟩ := he
  refine ⟨v, hv, v2, hv2, ?_⟩
  simp only [copyV, Option.bind_eq_some_iff] at he ⊢
  obtain ⟨⟨ys, ny⟩, hy, he⟩ := he
  refine ⟨(ys, ny), ?_⟩
  cases v with
  | lst s r c =>
   simp only at he ⊢
   refine ⟨?_, he⟩
   split at he
   ·simp only [Option.some.injEq] at he
    exact rowsOf_congr hy (fun a ha => hg a (by rw [← he]; exact ha))
   ·cases he
  | ref a s o l c =>
   simp only at he ⊢
   have hneed : e.need = a :: ny := by
    cases hk : get a with
    | none => simp [hk] at he
    | some k =>
     cases k with
     | loop => simp [hk] at he
     | stop => simp [hk] at he
     | map => simp [hk] at he
     | iter => simp [hk] at he
     | siter => simp [hk] at he
     | junk => simp [hk] at he
     | arr s2 rows =>
      simp only [hk] at he
      split at he
      ·simp only [Option.some.injEq] at he; rw [← he]
      ·cases he
   refine ⟨rowsOf_congr hy (fun b hb => hg b (by rw [hneed]; simp [hb])), ?_⟩
   rw [hg a (by rw [hneed]; simp)]; exact he
  | _ => simp at he
 | _ => exact he
end Go.Proofs.YtigdhgbkgfagiaaGreat
