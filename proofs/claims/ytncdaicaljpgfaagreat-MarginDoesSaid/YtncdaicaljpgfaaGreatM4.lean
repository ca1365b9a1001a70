/- Calls of closures; results; lists that may be nil. · Outcomes: the reference's comparisons, walked. · Permutations, as the reference tells them. Nothing of the program is named here. · Outcomes: the reference's seats and what outcomes refer to, walked. · Permutations, as the program tells them: sorted, walked. · Outcomes: what they refer to, by the program, walked. -/
import Derived.Test.YtncdaicaljpgfaaGreatM1
import Derived.Test.YtncdaicaljpgfaaGreatAlXl
import Derived.Test.YtncdaicaljpgfaaGreatM3
import Derived.Test.YtncdaicaljpgfaaGreatAlS
set_option maxRecDepth 100000
set_option maxHeartbeats 4000000
set_option linter.unusedVariables false
set_option linter.unusedSimpArgs false
namespace Go.Proofs.YtncdaicaljpgfaaGreat
/-- A call of whatever is called, in a smaller memory: src are the blocks handed over. -/
theorem opsP_frm {L : Lib} {l : List AI} {K : Env → Heap → Prop} {E : Env} {H : Heap} {d : Option Nat} {anc : List Nat} (src : List Nat) {c : ACallee} {args : List AOpd} {k : Nat} {vs vs' : List V} {H0 : Heap} {Post : V → Heap → Prop} (hv : callee L.G E.get c args = some (.fn k, vs)) (hn : nodupO (src.map some) = true) (hlt : (src.all fun a => Nat.blt a H.length) = true) (hvs : vs.map (V.ren (sgOf H (src.map some) [])) = vs') (hH : H.sh (src.map some) [] = H0) (hf : AFn L (.fn k) vs' H0 Post) (h : ∀ r h', Post r h' → opsP L l K (E.put d (r.ren (outσ H.length src))) (H.back src h')) : opsP L (⟨d, .call c args, none, anc⟩ :: l) K E H := by
  show stepP L ⟨d, .call c args, none, anc⟩ (opsP L l K) E H
  unfold stepP AI.goes
  show CallP L E.get H c args _
  unfold CallP
  rw [hv]
  show AFn L (.fn k) vs H _
  refine AFn.frame (k' := .fn k) src [] rfl hn hlt ?_
  rw [hvs, hH]
  exact hf.mono fun r h' hp => ⟨rfl, h r h' hp⟩
/-- A call as it stands. -/
theorem opsP_all {L : Lib} {l : List AI} {K : Env → Heap → Prop} {E : Env} {H : Heap} {d : Option Nat} {anc : List Nat} {c : ACallee} {args : List AOpd} {k : Nat} {vs : List V} {Post : V → Heap → Prop} (hv : callee L.G E.get c args = some (.fn k, vs)) (hf : AFn L (.fn k) vs H Post) (h : ∀ r h', Post r h' → opsP L l K (E.put d r) h') : opsP L (⟨d, .call c args, none, anc⟩ :: l) K E H := by
  show stepP L ⟨d, .call c args, none, anc⟩ (opsP L l K) E H
  unfold stepP AI.goes
  show CallP L E.get H c args _
  unfold CallP
  rw [hv]
  show AFn L (.fn k) vs H _
  exact hf.mono h
theorem FnQ.at {F : AFunc} {n0 : Nat} {P : V → Heap → Prop} {E : Env} {H : Heap} {r : V} (h : resV E.get H.get F.results = some r) (hP : P r H) : FnQ F n0 P .ret E H := by
  have : ResP F.results n0 P E H := by
    unfold ResP
    rw [h]
    exact .inl hP
  exact this
theorem FnQ.sh {F : AFunc} {n0 : Nat} {P : V → Heap → Prop} {E : Env} {H : Heap} {r0 r : V} {H1 : Heap} (src : List (Option Nat)) (fz : List Nat) (ho : okSh n0 src = true) (h : resV E.get H.get F.results = some r0) (hr : r0.ren (sgOf H src fz) = r) (hH : H.sh src fz = H1) (hP : P r H1) : FnQ F n0 P .ret E H := by
  have : ResP F.results n0 P E H := by
    unfold ResP
    rw [h]
    refine .inr ⟨src, fz, ho, ?_⟩
    rw [hr, hH]; exact hP
  exact this
theorem rel_nilcase {N : Nums} {w : World} {S : Nat → Prop} {β : Nat → Option Nat} {s : Nat} {c : Option Nat} {x : Value} (h : Rel N w S β (.lst s [] c) x) : Rel N w S β (.lst 0 [] c) x ∨ Rel N w S β (.lst 1000003 [] c) x := by
  cases h with
  | lst _ _ _ _ a cc b off ys hc hlc ha hn hr hy h hz =>
    by_cases e : a = none
    · exact .inl (.lst β 0 [] c a cc b off ys hc hlc ha hn (fun i row h => by simp at h) (fun i row j x h => by simp at h) (fun i row j x h => by simp at h) ⟨fun _ _ => e, fun h => by simp at h⟩)
    · exact .inr (.lst β 1000003 [] c a cc b off ys hc hlc ha hn (fun i row h => by simp at h) (fun i row j x h => by simp at h) (fun i row j x h => by simp at h) ⟨fun h => by simp at h, fun _ _ => e⟩)
theorem rel_weak {N : Nums} {w : World} {S : Nat → Prop} {β : Nat → Option Nat} {s : Nat} {c : Option Nat} {x : Value} (h : Rel N w S β (.lst s [] c) x) : Rel N w S β (.lst 1 [] none) x := by
  cases h with
  | lst _ _ _ _ a cc b off ys hc hlc ha hn hr hy h hz =>
    exact .lst β 1 [] none a cc b off ys (fun k h => by cases h) hlc ha hn (fun i row h => by simp at h) (fun i row j x h => by simp at h) (fun i row j x h => by simp at h) ⟨fun h => by simp at h, fun h => by simp at h⟩
theorem AFn.nilcase {L : Lib} {k : Tgt} {s : Nat} {c : Option Nat} {H : Heap} {Post : V → Heap → Prop} (h0 : AFn L k [.lst 0 [] c] H Post) (h1 : AFn L k [.lst 1000003 [] c] H Post) : AFn L k [.lst s [] c] H Post := by
  intro C hC A w β vs hA hd hh hg ha
  obtain ⟨hn, har⟩ := ha
  have hsz : vs.size = 1 := hn
  have hr := har 0 _ vs[0] rfl (by simp [hsz])
  have go : ∀ v, Rel C.N w (Imm A w β H.get) β v vs[0] → RArgs C w (Imm A w β H.get) β [v] vs := fun v hv => ⟨hn, fun i u x hu hx => by
    match i with
    | 0 =>
      have hu : some v = some u := hu
      cases hu
      rw [Array.getElem?_eq_getElem (by omega)] at hx
      cases hx
      exact hv
    | i + 1 => simp at hu⟩
  rcases rel_nilcase hr with h | h
  · exact h0 C hC A w β vs hA hd hh hg (go _ h)
  · exact h1 C hC A w β vs hA hd hh hg (go _ h)
theorem AFn.weakE {L : Lib} {k : Tgt} {args : List V} {H H1 : Heap} (h : AFn L k args H (fun r H' => (∃ s c, r = .lst s [] c) ∧ H' = H1)) : AFn L k args H (fun r H' => r = .lst 1 [] none ∧ H' = H1) := by
  intro C hC A w β vs hA hd hh hg ha
  refine (h C hC A w β vs hA hd hh hg ha).mono ?_
  rintro e w' ⟨v, r, H', β', h1, ⟨⟨s, c, rfl⟩, rfl⟩, h3, h4, h5, h6, h7, h8⟩
  exact ⟨v, _, _, β', h1, ⟨rfl, rfl⟩, h3, h4, h5, h6, rel_weak h7, h8⟩
end Go.Proofs.YtncdaicaljpgfaaGreat
set_option maxRecDepth 100000
set_option maxHeartbeats 4000000
set_option linter.unusedVariables false
set_option linter.unusedSimpArgs false
namespace Go.Proofs.YtncdaicaljpgfaaGreat
def okI (o : Nl Int) : Prop := o.l.length * 8 ≤ 140737488351232
def okU (o : Nl Int) : Prop := o.l.length * 4 ≤ 140737488351232
def okRt (r : Rt) : Prop := okU r.num ∧ okU r.den
def okRd (d : Rd) : Prop := d.had.l.length * 56 ≤ 140737488351232 ∧ (∀ r ∈ d.had.l, okRt r) ∧ okRt d.lost ∧ okI d.el ∧ okI d.out
def okTi (t : Ti) : Prop := okI t.among
def okO (o : Oc) : Prop := okI o.el ∧ (o.rounds.l.length * 128 ≤ 140737488351232 ∧ ∀ d ∈ o.rounds.l, okRd d) ∧ o.ties.l.length * 32 ≤ 140737488351232 ∧ ∀ t ∈ o.ties.l, okTi t
theorem urow_eq (x : Int) : urow x = [.int .u32 x] := rfl
theorem rtrow_eq (r : Rt) : rtrow r = [.bool r.neg, nlv urow 1 r.num, nlv urow 1 r.den] := rfl
theorem rdrow_eq (d : Rd) : rdrow d = [nlv rtrow 3 d.had, .bool d.lost.neg, nlv urow 1 d.lost.num, nlv urow 1 d.lost.den, nlv mrow 1 d.el, nlv mrow 1 d.out] := rfl
theorem tirow_eq (t : Ti) : tirow t = [nlv mrow 1 t.among, .int .i64 t.chosen] := rfl
attribute [push_cast] urow_eq rtrow_eq rdrow_eq tirow_eq
theorem decide_ff {p : Prop} [Decidable p] (h : ¬ p) : decide p = false := decide_eq_false h
variable {L : Lib} (hL : L.T = tab.get)
include hL
end Go.Proofs.YtncdaicaljpgfaaGreat
set_option linter.unusedVariables false
namespace Go.Proofs.YtncdaicaljpgfaaGreat
theorem nodup_len : ∀ (n : Nat) (p : List Int), p.Nodup → (∀ x ∈ p, 0 ≤ x ∧ x < (n : Int)) → p.length ≤ n
  | 0, p, _, h => by
    cases p with
    | nil => exact Nat.le_refl _
    | cons x r => have := h x List.mem_cons_self; omega
  | n + 1, p, hd, h => by
    by_cases hm : (n : Int) ∈ p
    · have h1 := nodup_len n (p.erase (n : Int)) (hd.erase _) (fun x hx => by
        have h2 := (List.Nodup.mem_erase_iff hd).1 hx
        have h3 := h x h2.2
        have : x ≠ (n : Int) := h2.1
        omega)
      rw [List.length_erase_of_mem hm] at h1
      omega
    · have h1 := nodup_len n p hd (fun x hx => by
        have h3 := h x hx
        have : x ≠ (n : Int) := fun e => hm (e ▸ hx)
        omega)
      omega
theorem turned_iff {p : List Int} : turnedL p = true ↔ (1 ≤ p.length ∧ p.length ≤ 10) ∧ (∀ x ∈ p, 0 ≤ x ∧ x < p.length) ∧ p.Nodup := by
  constructor
  · intro h
    exact ⟨turned_len h, fun x hx => turned_range h hx, turned_nodup h⟩
  · rintro ⟨h1, h2, h3⟩
    unfold turnedL
    rw [Bool.and_eq_true, List.all_eq_true]
    refine ⟨decide_eq_true h1, fun i hi => decide_eq_true ?_⟩
    have hi' := List.mem_range.1 hi
    apply Classical.byContradiction
    intro hn
    have := nodup_len p.length ((i : Int) :: p) (List.nodup_cons.2 ⟨hn, h3⟩) (fun x hx => by
      rcases List.mem_cons.1 hx with rfl | hx
      · omega
      · exact h2 x hx)
    simp only [List.length_cons] at this
    omega
/-- Up to j, numbers are in range and none stands twice. -/
def permTo (p : List Int) (j : Nat) : Prop := ∀ i : Nat, i < j → ∀ x : Int, p[i]? = some x → (0 ≤ x ∧ x < p.length) ∧ ∀ k : Nat, k < i → p[k]? ≠ some x
theorem permTo_end {p : List Int} (h1 : 1 ≤ p.length ∧ p.length ≤ 10) (h : permTo p p.length) : turnedL p = true := by
  refine turned_iff.2 ⟨h1, fun x hx => ?_, ?_⟩
  · obtain ⟨i, hi⟩ := List.mem_iff_getElem?.1 hx
    exact (h i (List.getElem?_eq_some_iff.1 hi).1 x hi).1
  · rw [List.nodup_iff_pairwise_ne]
    rw [List.pairwise_iff_getElem]
    intro i j hi hj hij e
    have := (h j hj _ (List.getElem?_eq_getElem hj)).2 i hij
    exact this (by rw [← e]; exact List.getElem?_eq_getElem hi)
theorem perm_no {p : List Int} (h : ¬ (1 ≤ p.length ∧ p.length ≤ 10)) : turnedL p = false := by
  cases ht : turnedL p with
  | false => rfl
  | true => exact absurd (turned_len ht) h
theorem perm_out {p : List Int} {j : Nat} {x : Int} (hx : p[j]? = some x) (h : ¬ (0 ≤ x ∧ x < p.length)) : turnedL p = false := by
  cases ht : turnedL p with
  | false => rfl
  | true => exact absurd (turned_range ht (List.mem_of_getElem? hx)) h
theorem perm_twice {p : List Int} {j k : Nat} {x : Int} (hx : p[j]? = some x) (hk : p[k]? = some x) (h : k < j) : turnedL p = false := by
  cases ht : turnedL p with
  | false => rfl
  | true => have := nodup_at (turned_nodup ht) hx hk; omega
theorem ofL_nil (n : Int) : ofL [] n = true := rfl
theorem ofL_take {l : List Int} {n : Int} {j : Nat} {x : Int} (h : ofL (l.take j) n = true) (hx : l[j]? = some x) (h1 : 0 ≤ x ∧ x < n) : ofL (l.take (j + 1)) n = true := by
  rw [take_snoc hx]
  unfold ofL at h ⊢
  rw [List.all_append, h]
  simp [h1]
theorem all_take {α : Type} {p : α → Bool} {l : List α} {j : Nat} {x : α} (h : (l.take j).all p = true) (hx : l[j]? = some x) (h1 : p x = true) : (l.take (j + 1)).all p = true := by
  rw [take_snoc hx, List.all_append, h]
  simp [h1]
theorem all_ff {α : Type} {p : α → Bool} {l : List α} {j : Nat} {x : α} (hx : l[j]? = some x) (h1 : p x = false) : l.all p = false := by
  cases h : l.all p with
  | false => rfl
  | true =>
    have := List.all_eq_true.1 h x (List.mem_of_getElem? hx)
    rw [h1] at this; cases this
theorem ofL_no {l : List Int} {n : Int} {j : Nat} {x : Int} (hx : l[j]? = some x) (h1 : ¬ (0 ≤ x ∧ x < n)) : ofL l n = false := all_ff hx (decide_eq_false h1)
/-- A list that is nil where it is empty. -/
def nz {α : Type} (l : List α) : Nl α := if l = [] then none else some l
theorem nz_l {α : Type} (l : List α) : (nz l).l = l := by
  unfold nz
  split
  · rename_i h; rw [h]; rfl
  · rfl
theorem nlv_nz {α : Type} {f : α → List V} {n : Nat} {l : List α} (h : l ≠ []) : nlv f n (nz l) = .lst n (l.map f) none := by
  have : ¬ l.length = 0 := fun e => h (List.length_eq_zero_iff.1 e)
  unfold nz nlv
  rw [if_neg h]
  simp only [this, if_false]
theorem frz_nz {α : Type} {f : α → List V} (hf : ∀ x, (f x).all V.closed = true) {H : Heap} {src : List (Option Nat)} {fz : List Nat} {a n : Nat} {r : List α} (hn : 0 < n) (hs : posIn src a 0 = none) (ha : fz.contains a = true) (h : H.get a = accB f n r) : V.ren (sgOf H src fz) (accV a n r) = nlv f n (nz r) := by
  by_cases hr : r = []
  · subst hr; rfl
  · rw [accB_cons hr] at h
    rw [nlv_nz hr, accV_cons hr]
    have e : sgOf H src fz a = .frz n (r.map f) := by
      unfold sgOf
      simp only [hs, ha, h, closeds_tl hf, cond_true]
    rw [V.ren, e]
    simp only [hn, Nat.zero_add, List.length_map, Nat.le_refl, and_self, if_true, List.drop_zero]
    rw [List.take_of_length_le (by simp)]
/-- Seats, up to j. -/
theorem seatsGo_snoc (n : Int) : ∀ {l acc : List Int} {r : List Int} {x : Int}, seatsGo n l acc = some r → seatsGo n (l ++ [x]) acc = if x < 0 ∨ n ≤ x then none else some (r.set x.toNat (r.getD x.toNat 0 + 1))
  | [], acc, r, x, h => by
    simp only [seatsGo, Option.some.injEq] at h
    subst h
    simp [seatsGo]
  | c :: l, acc, r, x, h => by
    simp only [seatsGo] at h
    simp only [List.cons_append, seatsGo]
    split at h
    · cases h
    · rename_i hc
      rw [if_neg hc]
      exact seatsGo_snoc n h
theorem seatsGo_none (n : Int) : ∀ {l acc : List Int} {m : List Int}, seatsGo n l acc = none → seatsGo n (l ++ m) acc = none
  | [], acc, m, h => by simp [seatsGo] at h
  | c :: l, acc, m, h => by
    simp only [seatsGo] at h
    simp only [List.cons_append, seatsGo]
    split at h
    · rename_i hc; rw [if_pos hc]
    · rename_i hc
      rw [if_neg hc]
      exact seatsGo_none n h
theorem seatsGo_len (n : Int) : ∀ {l acc r : List Int}, seatsGo n l acc = some r → r.length = acc.length
  | [], acc, r, h => by simp only [seatsGo, Option.some.injEq] at h; subst h; rfl
  | c :: l, acc, r, h => by
    simp only [seatsGo] at h
    split at h
    · cases h
    · rw [seatsGo_len n h]; simp
theorem seatsGo_le (n : Int) : ∀ {l acc r : List Int} {b : Int}, seatsGo n l acc = some r → (∀ x ∈ acc, 0 ≤ x ∧ x ≤ b) → ∀ x ∈ r, 0 ≤ x ∧ x ≤ b + l.length
  | [], acc, r, b, h, ha => by simp only [seatsGo, Option.some.injEq] at h; subst h; simpa using ha
  | c :: l, acc, r, b, h, ha => by
    simp only [seatsGo] at h
    split at h
    · cases h
    · intro x hx
      have := seatsGo_le n h (b := b + 1) (fun y hy => by
        rcases List.mem_or_eq_of_mem_set hy with hy | hy
        · have := ha y hy; omega
        · by_cases hc : c.toNat < acc.length
          · have h1 : acc[c.toNat]? = some acc[c.toNat] := List.getElem?_eq_getElem hc
            have h2 := ha _ (List.mem_of_getElem? h1)
            rw [List.getD_eq_getElem?_getD, h1, Option.getD_some] at hy
            omega
          · rw [List.getD_eq_getElem?_getD, List.getElem?_eq_none (by omega), Option.getD_none] at hy
            cases acc with
            | nil => exact absurd hx (by
                have := seatsGo_len n h
                simp at this
                subst this; simp)
            | cons a acc =>
              have := ha a List.mem_cons_self
              omega) x hx
      simp only [List.length_cons]
      omega
end Go.Proofs.YtncdaicaljpgfaaGreat
set_option maxRecDepth 100000
set_option maxHeartbeats 4000000
set_option linter.unusedVariables false
set_option linter.unusedSimpArgs false
namespace Go.Proofs.YtncdaicaljpgfaaGreat
theorem deep_one {h : HG} {a : Nat} {x : Int} {c : Option Nat} (ha : h a = some (.arr 1 [[.int .i64 x]])) : Deep h 2 (.ref a 1 0 1 c) (nlv mrow 1 (some [x])) :=
  OwnLf.deep (F := fun _ => True) leaf_mrow (by decide) (.inr ⟨a, c, rfl, ha, trivial⟩)
theorem deep_int {h : HG} {k : IntKind} {n : Int} : Deep h 1 (.int k n) (.int k n) := rfl
theorem blk_closed (σ : Nat → Sg) {B : Blk} (hc : B.closed = true) : Blk.ren σ B = B := by
  cases B with
  | arr s rows =>
    unfold Blk.ren
    dsimp only
    congr 1
    have hr : ∀ r ∈ rows, r.map (V.ren σ) = r := fun r hr => ren_row (List.all_eq_true.1 hc r hr) σ
    calc rows.map (fun r => r.map (V.ren σ)) = rows.map id := List.map_congr_left hr
      _ = rows := List.map_id rows
  | _ => cases hc
theorem sh_k {H : Heap} {σ : Nat → Sg} {a : Nat} {B : Blk} (h : H.get a = some B) (hc : B.closed = true) : ((some a).bind fun a => (H.get a).map (Blk.ren σ)) = some B := by
  show (H.get a).map (Blk.ren σ) = _
  rw [h, Option.map_some, blk_closed _ hc]
variable {L : Lib} (hL : L.T = tab.get)
include hL
end Go.Proofs.YtncdaicaljpgfaaGreat
set_option maxRecDepth 100000
set_option maxHeartbeats 4000000
set_option linter.unusedVariables false
set_option linter.unusedSimpArgs false
namespace Go.Proofs.YtncdaicaljpgfaaGreat
theorem FnQ.atN {F : AFunc} {n0 : Nat} {P : V → Heap → Prop} {E : Env} {H : Heap} {r : V} (h : resV E.get H.get F.results = some r) (hP : P r H) : FnQ F n0 P .normal E H := by
  have : ResP F.results n0 P E H := by
    unfold ResP
    rw [h]
    exact .inl hP
  exact this
theorem AFn.shift {L : Lib} {k : Tgt} {args : List V} {H : Heap} {P : V → Heap → Prop} (h : AFn L k args H (fun r H' => ∃ src fz, okSh H.length src = true ∧ P (r.ren (sgOf H' src fz)) (H'.sh src fz))) : AFn L k args H P := by
  intro C hC A w β vs hA hd hh hg ha
  refine (h C hC A w β vs hA hd hh hg ha).mono ?_
  rintro e w' ⟨v, r, H', β', h1, ⟨src, fz, hok, hp⟩, h3, h4, h5, h6, h7, h8, h9⟩
  simp only [okSh, Bool.and_eq_true, List.all_eq_true] at hok
  obtain ⟨hn, hall⟩ := hok
  have hid : ∀ i, i < H.length → src[i]? = some (some i) := fun i hi => by
    have := hall i (List.mem_range.2 hi)
    split at this
    · rename_i j hj
      have : j = i := by simpa using this
      rw [hj, this]
    · cases this
  have hlive : ∀ b, Live (shβ src β') (H'.sh src fz).get b → Live β' H'.get b := fun b hb => by
    obtain ⟨k, a, h1, h2, h3⟩ := sh_live (Agr.self H' src fz) hb
    exact ⟨a, h2, h3⟩
  have himm : ∀ b, Imm A w' β' H'.get b → Imm A w' (shβ src β') (H'.sh src fz).get b := fun b hb => ⟨hb.lt, fun h => hb.free (hlive b h), hb.al, hb.arr⟩
  have hren : RenOk C.N w' (Imm A w' (shβ src β') (H'.sh src fz).get) (sgOf H' src fz) β' (shβ src β') := sh_renOk (Agr.self H' src fz) h6 himm (fun a b s rows h1 h2 h3 h4 => by
    have h3' : H'.get a ≠ none := by rw [h3]; simp
    obtain ⟨b', g1, g2, g3⟩ := h6.at' a _ h3
    rw [h4] at g1; cases g1
    refine ⟨g2, fun hl => ?_, hA b (h8 b ⟨a, h3', h4⟩), ?_⟩
    rotate_left
    · obtain ⟨cells, T, fz', q1, _⟩ := g3
      exact ⟨cells, T, fz', q1⟩
    · obtain ⟨k, a', g1, g2, g3⟩ := sh_live (Agr.self H' src fz) hl
      have := h6.inj a a' b h3' g2 h4 g3
      subst this
      exact posIn_none h2 k g1)
  refine ⟨v, _, _, shβ src β', h1, hp, ?_, fun i hi => ?_, fun i hi => ?_, sh_heap (Agr.self H' src fz) hn h6 himm hren, h7.ren himm hren, fun b hb => h8 b (hlive b hb), h9⟩
  · unfold Heap.sh
    rw [List.length_map]
    rcases Nat.eq_zero_or_pos H.length with h0 | h0
    · omega
    · have := (List.getElem?_eq_some_iff.1 (hid (H.length - 1) (by omega))).1; omega
  · have : src[i]? = none := List.getElem?_eq_none (by unfold Heap.sh at hi; simpa using hi)
    simp [shβ, this]
  · rw [shβ_to (hid i hi)]; exact h5 i hi
theorem opsP_any {L : Lib} {l : List AI} {K : Env → Heap → Prop} {E : Env} {H : Heap} {d : Option Nat} {anc : List Nat} {c : ACallee} {args : List AOpd} {k : Tgt} {vs : List V} {Post : V → Heap → Prop} (hv : callee L.G E.get c args = some (k, vs)) (hf : AFn L k vs H Post) (h : ∀ r h', Post r h' → opsP L l K (E.put d r) h') : opsP L (⟨d, .call c args, none, anc⟩ :: l) K E H := by
  show stepP L ⟨d, .call c args, none, anc⟩ (opsP L l K) E H
  unfold stepP AI.goes
  show CallP L E.get H c args _
  unfold CallP
  rw [hv]
  exact hf.mono h
def AC.ps : AC → List Nat
  | .range _ ps _ _ => ps
  | _ => []
theorem wRange {L : Lib} {n0 N : Nat} {Q : Exit → Env → Heap → Prop} {E : Env} {H : Heap} {c : AC} {k : Nat} {fs cs : List V} (h : c.tag = 7) (hg : opval L.G E.get c.c = some (.fn k fs cs)) (hf : AFn L (.fn k) (fs ++ [.yld H.length] ++ cs) (H ++ [some (.loop N E c.ps c.l c.r)]) (fun _ H' => RangeP H.length Q E H')) : SWP L n0 N c Q E H := by
  cases c with
  | range g ps a b => exact SWP.range hg hf
  | ops d _ _ => cases d <;> cases h
  | _ => cases h
section
variable {L : Lib} {n0 nt a : Nat} {ps : List Nat} {ad body : AC} {E0 E : Env} {H : Heap} {Q : Exit → Env → Heap → Prop} {Post : V → Heap → Prop}
theorem roundA_n : RoundA L n0 nt body Q .normal E H = SWP L n0 nt body Q E H := rfl
theorem roundQ_n : RoundQ a nt E0 ps ad body Post .normal E H = (H.get a = none ∧ Post (.bool true) (H.set a (some (.loop nt E0 ps ad body)))) := rfl
end
attribute [push_cast] roundA_n roundQ_n
theorem ren_yld {σ : Nat → Sg} {y : Nat} (h : σ y = .to y) : V.ren σ (.yld y) = .yld y := by simp [V.ren, h]
def accT (r : List Int) : Heap := if r = [] then [] else [some (.arr 1 (r.map mrow))]
theorem ren_tup0 {σ : Nat → Sg} : V.ren σ (.tup []) = .tup [] := rfl
theorem back_one {B0 B1 : Option Blk} {q : List Int} : Heap.back [B0, B1] [1] [some (.arr 1 (q.map mrow))] = [B0, some (.arr 1 (q.map mrow))] := by
  show [B0, Option.map (Blk.ren (outσ 2 [1])) (some (.arr 1 (q.map mrow)))] = _
  rw [Option.map_some, ren_tl closed_mrow]
theorem accT_nil : accT [] = [] := rfl
variable {L : Lib} (hL : L.T = tab.get)
include hL
/-- The iterator of slices.Values, over memory numbered by its rounds. -/
theorem valuesIt_a {p : List Int} {s : Nat} {c : Option Nat} {y : Nat} (hs : s = 1 ∨ p = []) (hl : p.length < 4611686018427387904) (HS : Nat → Heap) (h0 : (HS 0).get 0 = some (.arr 1 [[tl mrow s p c]]))
    (hy : ∀ j x, p[j]? = some x → ∃ HY src, AFn L (.yl y) [.int .i64 x] (HS j) (fun r H' => r = .bool true ∧ H' = HY) ∧ okSh (HS 0).length src = true ∧ sgOf HY src [] y = .to y ∧ HY.sh src [] = HS (j + 1)) : AFn L (.fn 261) [.yld y, .ptr 0 1 0 0] (HS 0) (fun r H' => r = .tup [] ∧ H' = HS p.length) := by
  refine AFn.of_body (F := T261.1) (by rw [hL]; rfl) rfl ?_
  (repeat' (first | refine wSeq rfl ?_ | refine wBlock rfl ?_ | refine wSkip rfl ?_ | refine wExit rfl ?_ | refine wRet rfl ?_ | refine wCondT rfl rfl ?_ | refine wCondF rfl rfl ?_ | refine wOps rfl ?_ | refine wDraw rfl rfl ?_ | simp only [seval, push_cast, ↓reduceIte, ↓bP_some, ↓aP_true, reduceCtorEq, h0]))
  refine wCntH rfl 7 p.length (fun _ => []) HS (fun _ => True) rfl rfl trivial ?_ ?_
  · intro j hj _
    obtain ⟨x, hx, _⟩ := get_of hj
    obtain rfl := size_of hs hj
    have hw := wrap_succ (show j < 9223372036854775807 by omega)
    obtain ⟨HY, src, y1, y2, y3, y4⟩ := hy j x hx
    (repeat' (first | refine wSeq rfl ?_ | refine wBlock rfl ?_ | refine wSkip rfl ?_ | refine wExit rfl ?_ | refine wRet rfl ?_ | refine wCondT rfl rfl ?_ | refine wCondF rfl rfl ?_ | refine wOpsP rfl ?_ | refine wDraw rfl rfl ?_ | simp only [seval, push_cast, ↓reduceIte, ↓bP_some, ↓aP_true, reduceCtorEq, hj, hx, iaQ_tl hj]))
    refine opsP_any rfl y1 ?_
    rintro r h' ⟨rfl, rfl⟩
    (repeat' (first | refine wSeq rfl ?_ | refine wBlock rfl ?_ | refine wSkip rfl ?_ | refine wExit rfl ?_ | refine wRet rfl ?_ | refine wCondT rfl rfl ?_ | refine wCondF rfl rfl ?_ | refine wOps rfl ?_ | refine wDraw rfl rfl ?_ | simp only [seval, push_cast, ↓reduceIte, ↓bP_some, ↓aP_true, reduceCtorEq, hw]))
    refine qR_s src [] y2 ?_ y4 trivial
    simp only [Env.sh, List.map_cons, List.map_nil, ren_yld y3]
    rfl
  · intro _
    (repeat' (first | refine wSeq rfl ?_ | refine wBlock rfl ?_ | refine wSkip rfl ?_ | refine wExit rfl ?_ | refine wRet rfl ?_ | refine wCondT rfl rfl ?_ | refine wCondF rfl rfl ?_ | refine wOps rfl ?_ | refine wDraw rfl rfl ?_ | simp only [seval, push_cast, ↓reduceIte, ↓bP_some, ↓aP_true, reduceCtorEq]))
    refine Eq.mpr (if_pos rfl) ?_
    exact FnQ.atN rfl ⟨rfl, rfl⟩
theorem values_v (s : Nat) (p : List Int) (c : Option Nat) : AFn L (.fn 193) [tl mrow s p c] [] (fun r H' => r = .fn 261 [] [.ptr 0 1 0 0] ∧ H' = [some (.arr 1 [[tl mrow s p c]])]) := by
  refine AFn.of_body (F := T193.1) (by rw [hL]; rfl) rfl ?_
  (repeat' (first | refine wSeq rfl ?_ | refine wBlock rfl ?_ | refine wSkip rfl ?_ | refine wExit rfl ?_ | refine wRet rfl ?_ | refine wCondT rfl rfl ?_ | refine wCondF rfl rfl ?_ | refine wOps rfl ?_ | refine wDraw rfl rfl ?_ | simp only [seval, push_cast, ↓reduceIte, ↓bP_some, ↓aP_true, reduceCtorEq]))
  exact FnQ.at rfl ⟨rfl, rfl⟩
theorem appendSeq_a (s : Nat) (p : List Int) (c : Option Nat) (hs : s = 1 ∨ p = []) (hne : p ≠ []) (hl : p.length ≤ 17592186043904) : AFn L (.fn 293) [.lst 0 [] (some 0), .fn 261 [] [.ptr 0 1 0 0]] [some (.arr 1 [[tl mrow s p c]])] (fun r H' => r = .ref 1 1 0 p.length none ∧ H' = [some (.arr 1 [[tl mrow s p c]]), some (.arr 1 (p.map mrow))]) := by
  refine AFn.of_body (F := T293.1) (by rw [hL]; rfl) rfl ?_
  (repeat' (first | refine wSeq rfl ?_ | refine wBlock rfl ?_ | refine wSkip rfl ?_ | refine wExit rfl ?_ | refine wRet rfl ?_ | refine wCondT rfl rfl ?_ | refine wCondF rfl rfl ?_ | refine wOps rfl ?_ | refine wDraw rfl rfl ?_ | simp only [seval, push_cast, ↓reduceIte, ↓bP_some, ↓aP_true, reduceCtorEq]))
  refine wRange rfl rfl ?_
  refine AFn.mono (valuesIt_a (y := 2) hL hs (by omega) (fun j => some (.arr 1 [[tl mrow s p c]]) :: some (.arr 1 [[accV 3 1 (p.take j)]]) :: some (.loop T293.1.ntmps [(2, V.ptr 1 1 0 0), (6, V.fn 261 [] [V.ptr 0 1 0 0])] T293.1.body.r.l.r.l.ps T293.1.body.r.l.r.l.l T293.1.body.r.l.r.l.r) :: accT (p.take j)) rfl ?_) ?_
  · intro j x hx
    have hj := (List.getElem?_eq_some_iff.1 hx).1
    have hlen : (p.take j).length = j := by rw [List.length_take]; omega
    rw [take_snoc hx]
    generalize p.take j = r at hlen ⊢
    have hput : putArgs [(2, V.ptr 1 1 0 0), (6, V.fn 261 [] [V.ptr 0 1 0 0])] T293.1.body.r.l.r.l.ps [V.int IntKind.i64 x] = [(2, V.ptr 1 1 0 0), (6, V.fn 261 [] [V.ptr 0 1 0 0]), (7, V.int .i64 x)] := rfl
    have hroom : (r.length + 1) * 8 ≤ 140737488355328 := by omega
    by_cases hr : r = []
    · subst hr
      refine ⟨[some (.arr 1 [[tl mrow s p c]]), some (.arr 1 [[.ref 4 1 0 1 none]]), some (.loop T293.1.ntmps [(2, V.ptr 1 1 0 0), (6, V.fn 261 [] [V.ptr 0 1 0 0])] T293.1.body.r.l.r.l.ps T293.1.body.r.l.r.l.l T293.1.body.r.l.r.l.r), some (.arr 1 [[.int .i64 x]]), some (.arr 1 [[.int .i64 x]])], [some 0, some 1, some 2, some 4], AFn.of_round rfl rfl rfl ?_, rfl, rfl, ?_⟩
      · (repeat' (first | refine wSeq rfl ?_ | refine wBlock rfl ?_ | refine wSkip rfl ?_ | refine wExit rfl ?_ | refine wRet rfl ?_ | refine wCondT rfl rfl ?_ | refine wCondF rfl rfl ?_ | refine wOps rfl ?_ | refine wDraw rfl rfl ?_ | simp only [seval, push_cast, ↓reduceIte, ↓bP_some, ↓aP_true, reduceCtorEq, accV_nil, hput, accT_nil]))
      · exact sh_c rfl (sh_c rfl (sh_c rfl (sh_c rfl sh_n)))
    · refine ⟨[some (.arr 1 [[tl mrow s p c]]), some (.arr 1 [[.ref 5 1 0 (r.length + 1) none]]), some (.loop T293.1.ntmps [(2, V.ptr 1 1 0 0), (6, V.fn 261 [] [V.ptr 0 1 0 0])] T293.1.body.r.l.r.l.ps T293.1.body.r.l.r.l.l T293.1.body.r.l.r.l.r), none, some (.arr 1 [[.int .i64 x]]), some (.arr 1 ((r ++ [x]).map mrow))], [some 0, some 1, some 2, some 5], ?_, rfl, rfl, ?_⟩
      · rw [show accT r = [some (.arr 1 (r.map mrow))] from if_neg hr]
        refine AFn.of_round rfl rfl rfl ?_
        (repeat' (first | refine wSeq rfl ?_ | refine wBlock rfl ?_ | refine wSkip rfl ?_ | refine wExit rfl ?_ | refine wRet rfl ?_ | refine wCondT rfl rfl ?_ | refine wCondF rfl rfl ?_ | refine wOps rfl ?_ | refine wDraw rfl rfl ?_ | simp only [seval, push_cast, ↓reduceIte, ↓bP_some, ↓aP_true, reduceCtorEq, accV_cons hr, hroom, hput]))
      · rw [accV_snoc, show accT (r ++ [x]) = [some (.arr 1 ((r ++ [x]).map mrow))] from if_neg (by simp)]
        exact sh_c rfl (sh_c rfl (sh_c rfl (sh_c (sh_b closed_mrow rfl) sh_n)))
  · rintro r h' ⟨rfl, rfl⟩
    rw [take_all]
    rw [show accT p = [some (.arr 1 (p.map mrow))] from if_neg hne, accV_cons hne]
    show qB _ (qN _ _ _ _ (FnQ _ _ _)) .normal _ _
    (repeat' (first | refine wSeq rfl ?_ | refine wBlock rfl ?_ | refine wSkip rfl ?_ | refine wExit rfl ?_ | refine wRet rfl ?_ | refine wCondT rfl rfl ?_ | refine wCondF rfl rfl ?_ | refine wOps rfl ?_ | refine wDraw rfl rfl ?_ | simp only [seval, push_cast, ↓reduceIte, ↓bP_some, ↓aP_true, reduceCtorEq]))
    exact FnQ.sh [some 0, some 3] [] rfl rfl rfl (sh_c rfl (sh_c (sh_b closed_mrow rfl) sh_n)) ⟨rfl, rfl⟩
theorem collect_a (s : Nat) (p : List Int) (c : Option Nat) (hs : s = 1 ∨ p = []) (hne : p ≠ []) (hl : p.length ≤ 17592186043904) : AFn L (.fn 260) [.fn 261 [] [.ptr 0 1 0 0]] [some (.arr 1 [[tl mrow s p c]])] (fun r H' => r = .ref 1 1 0 p.length none ∧ H' = [some (.arr 1 [[tl mrow s p c]]), some (.arr 1 (p.map mrow))]) := by
  refine AFn.of_body (F := T260.1) (by rw [hL]; rfl) rfl ?_
  (repeat' (first | refine wSeq rfl ?_ | refine wBlock rfl ?_ | refine wSkip rfl ?_ | refine wExit rfl ?_ | refine wRet rfl ?_ | refine wCondT rfl rfl ?_ | refine wCondF rfl rfl ?_ | refine wOpsP rfl ?_ | refine wDraw rfl rfl ?_ | simp only [seval, push_cast, ↓reduceIte, ↓bP_some, ↓aP_true, reduceCtorEq]))
  refine opsP_any rfl (appendSeq_a hL s p c hs hne hl) ?_
  rintro r h' ⟨rfl, rfl⟩
  (repeat' (first | refine wSeq rfl ?_ | refine wBlock rfl ?_ | refine wSkip rfl ?_ | refine wExit rfl ?_ | refine wRet rfl ?_ | refine wCondT rfl rfl ?_ | refine wCondF rfl rfl ?_ | refine wOps rfl ?_ | refine wDraw rfl rfl ?_ | simp only [seval, push_cast, ↓reduceIte, ↓bP_some, ↓aP_true, reduceCtorEq]))
  exact FnQ.at rfl ⟨rfl, rfl⟩
/-- The library's Sort, at lists of numbers that are not empty. -/
def SortOk (L : Lib) : Prop := ∀ (l : List Int) (c : Option Nat), 0 < l.length → l.length < 4611686018427387904 → AFn L (.fn 245) [.ref 0 1 0 l.length c] [some (.arr 1 (l.map mrow))] (fun r H' => r = .tup [] ∧ ∃ m : List Int, l.Perm m ∧ m.Pairwise (· ≤ ·) ∧ H' = [some (.arr 1 (m.map mrow))])
theorem len0_v : VFn L 132 [.int .u64 0] (.int .i64 0) := by
  have w1 : ¬ (4294967296 : Int) ≤ 0 := by omega
  have w2 : ¬ (65536 : Int) ≤ 0 := by omega
  have w3 : ¬ (256 : Int) ≤ 0 := by omega
  refine VFn.start (F := T132.1) (by rw [hL]; rfl) rfl rfl rfl ?_
  (repeat' (first | refine wSeq rfl ?_ | refine wBlock rfl ?_ | refine wSkip rfl ?_ | refine wExit rfl ?_ | refine wRet rfl ?_ | refine wCondT rfl rfl ?_ | refine wCondF rfl rfl ?_ | refine wOps rfl ?_ | refine wDraw rfl rfl ?_ | simp only [seval, push_cast, ↓reduceIte, ↓bP_some, ↓aP_true, reduceCtorEq, w1, w2, w3]))
  refine ⟨_, rfl, ?_⟩
  refine ⟨_, rfl, ?_⟩
  refine ⟨_, rfl, ?_⟩
  (repeat' (first | refine wSeq rfl ?_ | refine wBlock rfl ?_ | refine wSkip rfl ?_ | refine wExit rfl ?_ | refine wRet rfl ?_ | refine wCondT rfl rfl ?_ | refine wCondF rfl rfl ?_ | refine wOps rfl ?_ | refine wDraw rfl rfl ?_ | simp only [seval, push_cast, ↓reduceIte, ↓bP_some, ↓aP_true, reduceCtorEq]))
  exact FnQ.ret rfl rfl
theorem len00_v : VFn L 81 [.int .u64 0] (.int .i64 0) := by
  refine VFn.start (F := T81.1) (by rw [hL]; rfl) rfl rfl rfl ?_
  (repeat' (first | refine wSeq rfl ?_ | refine wBlock rfl ?_ | refine wSkip rfl ?_ | refine wExit rfl ?_ | refine wRet rfl ?_ | refine wCondT rfl rfl ?_ | refine wCondF rfl rfl ?_ | refine wOps rfl ?_ | refine wDraw rfl rfl ?_ | refine opsV_call rfl rfl (len0_v hL) ?_ | simp only [seval, push_cast, ↓reduceIte, ↓bP_some, ↓aP_true, reduceCtorEq]))
  exact FnQ.ret rfl rfl
theorem ins0_a (v : V) (H : Heap) : AFn L (.fn 301) [v, .int .i64 0, .int .i64 0] H (fun r H' => r = .tup [] ∧ H' = H) := by
  refine AFn.of_body (F := T301.1) (by rw [hL]; rfl) rfl ?_
  have w1 : IntKind.i64.wrap 1 = 1 := wrap_i64 (by omega) (by omega)
  (repeat' (first | refine wSeq rfl ?_ | refine wBlock rfl ?_ | refine wSkip rfl ?_ | refine wExit rfl ?_ | refine wRet rfl ?_ | refine wCondT rfl rfl ?_ | refine wCondF rfl rfl ?_ | refine wOps rfl ?_ | refine wDraw rfl rfl ?_ | simp only [seval, push_cast, ↓reduceIte, ↓bP_some, ↓aP_true, reduceCtorEq, w1]))
  refine wWhile rfl (fun _ : Unit => [(0, v), (1, .int .i64 0), (2, .int .i64 0), (6, .int .i64 1)]) (fun _ => H) (fun _ => 0) (fun _ => True) () rfl rfl trivial (fun _ _ => ?_)
  have h1 : ¬ ((1 : Int) < 0) := by omega
  (repeat' (first | refine wSeq rfl ?_ | refine wBlock rfl ?_ | refine wSkip rfl ?_ | refine wExit rfl ?_ | refine wRet rfl ?_ | refine wCondT rfl rfl ?_ | refine wCondF rfl rfl ?_ | refine wOps rfl ?_ | refine wDraw rfl rfl ?_ | simp only [seval, push_cast, ↓reduceIte, ↓bP_some, ↓aP_true, reduceCtorEq, h1]))
  refine (if_pos (by rfl)).mpr ?_
  exact FnQ.atN rfl ⟨rfl, rfl⟩
theorem pdq0_a (v : V) (m : Int) (H : Heap) : AFn L (.fn 287) [v, .int .i64 0, .int .i64 0, .int .i64 m] H (fun r H' => r = .tup [] ∧ H' = H) := by
  refine AFn.of_body (F := T287.1) (by rw [hL]; rfl) rfl ?_
  (repeat' (first | refine wSeq rfl ?_ | refine wBlock rfl ?_ | refine wSkip rfl ?_ | refine wExit rfl ?_ | refine wRet rfl ?_ | refine wCondT rfl rfl ?_ | refine wCondF rfl rfl ?_ | refine wOps rfl ?_ | refine wDraw rfl rfl ?_ | simp only [seval, push_cast, ↓reduceIte, ↓bP_some, ↓aP_true, reduceCtorEq]))
  refine wWhile rfl (fun _ : Unit => [(0, v), (1, .int .i64 0), (2, .int .i64 0), (3, .int .i64 m), (8, .bool true), (9, .bool true)]) (fun _ => H) (fun _ => 0) (fun _ => True) () rfl rfl trivial (fun _ _ => ?_)
  (repeat' (first | refine wSeq rfl ?_ | refine wBlock rfl ?_ | refine wSkip rfl ?_ | refine wExit rfl ?_ | refine wRet rfl ?_ | refine wCondT rfl rfl ?_ | refine wCondF rfl rfl ?_ | refine wOpsP rfl ?_ | refine wDraw rfl rfl ?_ | simp only [seval, push_cast, ↓reduceIte, ↓bP_some, ↓aP_true, reduceCtorEq]))
  refine opsP_all rfl (ins0_a hL v H) ?_
  rintro r h' ⟨rfl, rfl⟩
  (repeat' (first | refine wSeq rfl ?_ | refine wBlock rfl ?_ | refine wSkip rfl ?_ | refine wExit rfl ?_ | refine wRet rfl ?_ | refine wCondT rfl rfl ?_ | refine wCondF rfl rfl ?_ | refine wOps rfl ?_ | refine wDraw rfl rfl ?_ | simp only [seval, push_cast, ↓reduceIte, ↓bP_some, ↓aP_true, reduceCtorEq]))
  exact FnQ.at rfl ⟨rfl, rfl⟩
theorem sort0_a (v : V) (hv : lenQ v = some (.int .i64 0)) (H : Heap) : AFn L (.fn 245) [v] H (fun r H' => r = .tup [] ∧ H' = H) := by
  refine AFn.of_body (F := T245.1) (by rw [hL]; rfl) rfl ?_
  (repeat' (first | refine wSeq rfl ?_ | refine wBlock rfl ?_ | refine wSkip rfl ?_ | refine wExit rfl ?_ | refine wRet rfl ?_ | refine wCondT rfl rfl ?_ | refine wCondF rfl rfl ?_ | refine wOpsP rfl ?_ | refine wDraw rfl rfl ?_ | simp only [seval, push_cast, ↓reduceIte, ↓bP_some, ↓aP_true, reduceCtorEq, hv]))
  refine opsP_all rfl ((len00_v hL).at _) ?_
  rintro r h' ⟨rfl, rfl⟩
  (repeat' (first | refine wSeq rfl ?_ | refine wBlock rfl ?_ | refine wSkip rfl ?_ | refine wExit rfl ?_ | refine wRet rfl ?_ | refine wCondT rfl rfl ?_ | refine wCondF rfl rfl ?_ | refine wOpsP rfl ?_ | refine wDraw rfl rfl ?_ | simp only [seval, push_cast, ↓reduceIte, ↓bP_some, ↓aP_true, reduceCtorEq]))
  refine opsP_all rfl (pdq0_a hL v 0 _) ?_
  rintro r h' ⟨rfl, rfl⟩
  (repeat' (first | refine wSeq rfl ?_ | refine wBlock rfl ?_ | refine wSkip rfl ?_ | refine wExit rfl ?_ | refine wRet rfl ?_ | refine wCondT rfl rfl ?_ | refine wCondF rfl rfl ?_ | refine wOps rfl ?_ | refine wDraw rfl rfl ?_ | simp only [seval, push_cast, ↓reduceIte, ↓bP_some, ↓aP_true, reduceCtorEq]))
  exact FnQ.atN rfl ⟨rfl, rfl⟩
theorem appendSeq_0 (s : Nat) (c : Option Nat) : AFn L (.fn 293) [.lst 0 [] (some 0), .fn 261 [] [.ptr 0 1 0 0]] [some (.arr 1 [[tl mrow s [] c]])] (fun r H' => r = .lst 0 [] (some 0) ∧ H' = [some (.arr 1 [[tl mrow s [] c]])]) := by
  refine AFn.of_body (F := T293.1) (by rw [hL]; rfl) rfl ?_
  (repeat' (first | refine wSeq rfl ?_ | refine wBlock rfl ?_ | refine wSkip rfl ?_ | refine wExit rfl ?_ | refine wRet rfl ?_ | refine wCondT rfl rfl ?_ | refine wCondF rfl rfl ?_ | refine wOps rfl ?_ | refine wDraw rfl rfl ?_ | simp only [seval, push_cast, ↓reduceIte, ↓bP_some, ↓aP_true, reduceCtorEq]))
  refine wRange rfl rfl ?_
  refine AFn.mono (valuesIt_a (p := []) (y := 2) hL (.inr rfl) (by decide) (fun j => some (.arr 1 [[tl mrow s [] c]]) :: some (.arr 1 [[accV 3 1 ([] : List Int)]]) :: some (.loop T293.1.ntmps [(2, V.ptr 1 1 0 0), (6, V.fn 261 [] [V.ptr 0 1 0 0])] T293.1.body.r.l.r.l.ps T293.1.body.r.l.r.l.l T293.1.body.r.l.r.l.r) :: []) rfl (fun j x hx => by simp at hx)) ?_
  rintro r h' ⟨rfl, rfl⟩
  show qB _ (qN _ _ _ _ (FnQ _ _ _)) .normal _ _
  (repeat' (first | refine wSeq rfl ?_ | refine wBlock rfl ?_ | refine wSkip rfl ?_ | refine wExit rfl ?_ | refine wRet rfl ?_ | refine wCondT rfl rfl ?_ | refine wCondF rfl rfl ?_ | refine wOps rfl ?_ | refine wDraw rfl rfl ?_ | simp only [seval, push_cast, ↓reduceIte, ↓bP_some, ↓aP_true, reduceCtorEq]))
  exact FnQ.sh [some 0] [] rfl rfl rfl (sh_c rfl sh_n) ⟨rfl, rfl⟩
theorem collect_0 (s : Nat) (c : Option Nat) : AFn L (.fn 260) [.fn 261 [] [.ptr 0 1 0 0]] [some (.arr 1 [[tl mrow s [] c]])] (fun r H' => r = .lst 0 [] (some 0) ∧ H' = [some (.arr 1 [[tl mrow s [] c]])]) := by
  refine AFn.of_body (F := T260.1) (by rw [hL]; rfl) rfl ?_
  (repeat' (first | refine wSeq rfl ?_ | refine wBlock rfl ?_ | refine wSkip rfl ?_ | refine wExit rfl ?_ | refine wRet rfl ?_ | refine wCondT rfl rfl ?_ | refine wCondF rfl rfl ?_ | refine wOpsP rfl ?_ | refine wDraw rfl rfl ?_ | simp only [seval, push_cast, ↓reduceIte, ↓bP_some, ↓aP_true, reduceCtorEq]))
  refine opsP_any rfl (appendSeq_0 hL s c) ?_
  rintro r h' ⟨rfl, rfl⟩
  (repeat' (first | refine wSeq rfl ?_ | refine wBlock rfl ?_ | refine wSkip rfl ?_ | refine wExit rfl ?_ | refine wRet rfl ?_ | refine wCondT rfl rfl ?_ | refine wCondF rfl rfl ?_ | refine wOps rfl ?_ | refine wDraw rfl rfl ?_ | simp only [seval, push_cast, ↓reduceIte, ↓bP_some, ↓aP_true, reduceCtorEq]))
  exact FnQ.at rfl ⟨rfl, rfl⟩
theorem sorted_0 (s : Nat) (c : Option Nat) : AFn L (.fn 192) [.fn 261 [] [.ptr 0 1 0 0]] [some (.arr 1 [[tl mrow s [] c]])] (fun r H' => r = .lst 0 [] (some 0) ∧ H' = [some (.arr 1 [[tl mrow s [] c]])]) := by
  refine AFn.of_body (F := T192.1) (by rw [hL]; rfl) rfl ?_
  (repeat' (first | refine wSeq rfl ?_ | refine wBlock rfl ?_ | refine wSkip rfl ?_ | refine wExit rfl ?_ | refine wRet rfl ?_ | refine wCondT rfl rfl ?_ | refine wCondF rfl rfl ?_ | refine wOpsP rfl ?_ | refine wDraw rfl rfl ?_ | simp only [seval, push_cast, ↓reduceIte, ↓bP_some, ↓aP_true, reduceCtorEq]))
  refine opsP_any rfl (collect_0 hL s c) ?_
  rintro r h' ⟨rfl, rfl⟩
  (repeat' (first | refine wSeq rfl ?_ | refine wBlock rfl ?_ | refine wSkip rfl ?_ | refine wExit rfl ?_ | refine wRet rfl ?_ | refine wCondT rfl rfl ?_ | refine wCondF rfl rfl ?_ | refine wOpsP rfl ?_ | refine wDraw rfl rfl ?_ | simp only [seval, push_cast, ↓reduceIte, ↓bP_some, ↓aP_true, reduceCtorEq]))
  refine opsP_all rfl (sort0_a hL _ rfl _) ?_
  rintro r h' ⟨rfl, rfl⟩
  (repeat' (first | refine wSeq rfl ?_ | refine wBlock rfl ?_ | refine wSkip rfl ?_ | refine wExit rfl ?_ | refine wRet rfl ?_ | refine wCondT rfl rfl ?_ | refine wCondF rfl rfl ?_ | refine wOps rfl ?_ | refine wDraw rfl rfl ?_ | simp only [seval, push_cast, ↓reduceIte, ↓bP_some, ↓aP_true, reduceCtorEq]))
  exact FnQ.at rfl ⟨rfl, rfl⟩
theorem sorted_s (hS : SortOk L) (s : Nat) (p : List Int) (c : Option Nat) (hs : s = 1 ∨ p = []) (hne : p ≠ []) (hl : p.length ≤ 17592186043904) : AFn L (.fn 192) [.fn 261 [] [.ptr 0 1 0 0]] [some (.arr 1 [[tl mrow s p c]])] (fun r H' => r = .ref 1 1 0 p.length none ∧ ∃ m : List Int, m.Perm p ∧ m.Pairwise (· ≤ ·) ∧ H' = [some (.arr 1 [[tl mrow s p c]]), some (.arr 1 (m.map mrow))]) := by
  refine AFn.of_body (F := T192.1) (by rw [hL]; rfl) rfl ?_
  have hp : 0 < p.length := List.length_pos_iff.2 hne
  (repeat' (first | refine wSeq rfl ?_ | refine wBlock rfl ?_ | refine wSkip rfl ?_ | refine wExit rfl ?_ | refine wRet rfl ?_ | refine wCondT rfl rfl ?_ | refine wCondF rfl rfl ?_ | refine wOpsP rfl ?_ | refine wDraw rfl rfl ?_ | simp only [seval, push_cast, ↓reduceIte, ↓bP_some, ↓aP_true, reduceCtorEq]))
  refine opsP_any rfl (collect_a hL s p c hs hne hl) ?_
  rintro r h' ⟨rfl, rfl⟩
  (repeat' (first | refine wSeq rfl ?_ | refine wBlock rfl ?_ | refine wSkip rfl ?_ | refine wExit rfl ?_ | refine wRet rfl ?_ | refine wCondT rfl rfl ?_ | refine wCondF rfl rfl ?_ | refine wOpsP rfl ?_ | refine wDraw rfl rfl ?_ | simp only [seval, push_cast, ↓reduceIte, ↓bP_some, ↓aP_true, reduceCtorEq]))
  refine opsP_frm (k := 245) (vs' := [.ref 0 1 0 p.length none]) (H0 := [some (.arr 1 (p.map mrow))]) [1] rfl rfl rfl rfl (sh_c (sh_b closed_mrow rfl) sh_n) (hS p none hp (by omega)) ?_
  rintro r h' ⟨rfl, q, q1, q2, rfl⟩
  rw [back_one, ren_tup0]
  (repeat' (first | refine wSeq rfl ?_ | refine wBlock rfl ?_ | refine wSkip rfl ?_ | refine wExit rfl ?_ | refine wRet rfl ?_ | refine wCondT rfl rfl ?_ | refine wCondF rfl rfl ?_ | refine wOps rfl ?_ | refine wDraw rfl rfl ?_ | simp only [seval, push_cast, ↓reduceIte, ↓bP_some, ↓aP_true, reduceCtorEq]))
  exact FnQ.at rfl ⟨rfl, q, q1.symm, q2, rfl⟩
end Go.Proofs.YtncdaicaljpgfaaGreat
set_option maxRecDepth 100000
set_option maxHeartbeats 4000000
set_option linter.unusedVariables false
set_option linter.unusedSimpArgs false
namespace Go.Proofs.YtncdaicaljpgfaaGreat
/-- A value is a slice of these things in this memory. -/
structure IsSl (H : Heap) (v : V) (l : List Int) : Prop where
  len : lenQ v = some (.int .i64 l.length)
  at' : ∀ i x, l[i]? = some x → ∃ p, iaQ 1 v i = some p ∧ loadQ H.get 1 true p = some (.int .i64 x)
theorem IsSl.tl {H : Heap} {s : Nat} {l : List Int} {c : Option Nat} (hs : s = 1 ∨ l = []) : IsSl H (tl mrow s l c) l :=
  ⟨lenQ_tl, fun i x hx => by
    have hi := (List.getElem?_eq_some_iff.1 hx).1
    obtain rfl := size_of hs hi
    refine ⟨_, iaQ_tl hi, ?_⟩
    rw [loadQ_iptr, row_tl, hx]; rfl⟩
/-- The first place where p holds, or -1. -/
def findL (p : Int → Bool) (l : List Int) (j : Nat) : Int := match l with | [] => -1 | x :: r => if p x then (j : Int) else findL p r (j + 1)
theorem drop_at' {α : Type} {l : List α} {j : Nat} {x : α} (h : l[j]? = some x) : l.drop j = x :: l.drop (j + 1) := by
  obtain ⟨h1, rfl⟩ := List.getElem?_eq_some_iff.1 h
  exact List.drop_eq_getElem_cons h1
variable {L : Lib} (hL : L.T = tab.get)
include hL
theorem indexFunc_a {H : Heap} {v : V} {l : List Int} {kf : Nat} {fs cs : List V} {p : Int → Bool} (hv : IsSl H v l) (hl : l.length < 4611686018427387904) (hf : ∀ x ∈ l, AFn L (.fn kf) (fs ++ [.int .i64 x] ++ cs) H (fun r H' => r = .bool (p x) ∧ H' = H)) : AFn L (.fn 43) [v, .fn kf fs cs] H (fun r H' => r = .int .i64 (findL p l 0) ∧ H' = H) := by
  refine AFn.of_body (F := T43.1) (by rw [hL]; rfl) rfl ?_
  (repeat' (first | refine wSeq rfl ?_ | refine wBlock rfl ?_ | refine wSkip rfl ?_ | refine wExit rfl ?_ | refine wRet rfl ?_ | refine wCondT rfl rfl ?_ | refine wCondF rfl rfl ?_ | refine wOps rfl ?_ | refine wDraw rfl rfl ?_ | simp only [seval, push_cast, ↓reduceIte, ↓bP_some, ↓aP_true, reduceCtorEq, hv.len]))
  refine wCnt rfl 8 l.length (fun _ => []) (fun j => findL p l 0 = findL p (l.drop j) j) rfl rfl ?_ ?_
  · intro j hj hI
    obtain ⟨x, hx, hm⟩ := get_of hj
    obtain ⟨q, hq1, hq2⟩ := hv.at' j x hx
    have hd := drop_at' hx
    (repeat' (first | refine wSeq rfl ?_ | refine wBlock rfl ?_ | refine wSkip rfl ?_ | refine wExit rfl ?_ | refine wRet rfl ?_ | refine wCondT rfl rfl ?_ | refine wCondF rfl rfl ?_ | refine wOpsP rfl ?_ | refine wDraw rfl rfl ?_ | simp only [seval, push_cast, ↓reduceIte, ↓bP_some, ↓aP_true, reduceCtorEq, hj, hq1, hq2]))
    refine opsP_all (k := kf) (vs := fs ++ [.int .i64 x] ++ cs) rfl (hf x hm) ?_
    rintro r h' ⟨rfl, rfl⟩
    cases hp : p x with
    | true =>
      (repeat' (first | refine wSeq rfl ?_ | refine wBlock rfl ?_ | refine wSkip rfl ?_ | refine wExit rfl ?_ | refine wRet rfl ?_ | refine wCondT rfl rfl ?_ | refine wCondF rfl rfl ?_ | refine wOps rfl ?_ | refine wDraw rfl rfl ?_ | simp only [seval, push_cast, ↓reduceIte, ↓bP_some, ↓aP_true, reduceCtorEq]))
      rw [show findL p l 0 = (j : Int) by rw [hI, hd]; exact if_pos hp]
      exact FnQ.at rfl ⟨rfl, rfl⟩
    | false =>
      (repeat' (first | refine wSeq rfl ?_ | refine wBlock rfl ?_ | refine wSkip rfl ?_ | refine wExit rfl ?_ | refine wRet rfl ?_ | refine wCondT rfl rfl ?_ | refine wCondF rfl rfl ?_ | refine wOps rfl ?_ | refine wDraw rfl rfl ?_ | simp only [seval, push_cast, ↓reduceIte, ↓bP_some, ↓aP_true, reduceCtorEq, wrap_succ (show j < 9223372036854775807 by omega)]))
      refine qR_n rfl rfl ?_
      rw [hI, hd]
      exact if_neg (by rw [hp]; simp)
  · intro hI
    (repeat' (first | refine wSeq rfl ?_ | refine wBlock rfl ?_ | refine wSkip rfl ?_ | refine wExit rfl ?_ | refine wRet rfl ?_ | refine wCondT rfl rfl ?_ | refine wCondF rfl rfl ?_ | refine wOps rfl ?_ | refine wDraw rfl rfl ?_ | simp only [seval, push_cast, ↓reduceIte, ↓bP_some, ↓aP_true, reduceCtorEq]))
    rw [show findL p l 0 = -1 by rw [hI, List.drop_eq_nil_of_le (Nat.le_refl _)]; rfl]
    exact FnQ.at rfl ⟨rfl, rfl⟩
omit hL
/-- What DeleteFunc keeps, and how it gets there: i places are filled, j looked at. -/
theorem findL_ge (p : Int → Bool) : ∀ (l : List Int) (j : Nat), findL p l j = -1 ∧ (∀ x ∈ l, p x = false) ∨ ∃ i, i < l.length ∧ findL p l j = ((j + i : Nat) : Int) ∧ (∀ x ∈ l.take i, p x = false) ∧ ∃ x, l[i]? = some x ∧ p x = true
  | [], j => .inl ⟨rfl, fun x h => by cases h⟩
  | a :: r, j => by
    unfold findL
    cases hp : p a with
    | true => exact .inr ⟨0, by simp, by simp, fun x h => by simp at h, a, rfl, hp⟩
    | false =>
      rw [if_neg (by simp)]
      rcases findL_ge p r (j + 1) with ⟨h1, h2⟩ | ⟨i, h1, h2, h3, x, h4, h5⟩
      · left
        refine ⟨h1, fun x hx => ?_⟩
        rcases List.mem_cons.1 hx with rfl | hx
        · exact hp
        · exact h2 x hx
      · right
        refine ⟨i + 1, by simp; omega, by rw [h2]; congr 1; omega, fun x hx => ?_, x, h4, h5⟩
        rw [List.take_succ_cons] at hx
        rcases List.mem_cons.1 hx with rfl | hx
        · exact hp
        · exact h3 x hx
theorem findL_of (l : List Int) (n : Int) : decide (0 ≤ findL (fun x => !decide (0 ≤ x ∧ x < n)) l 0) = !ofL l n := by
  rcases findL_ge (fun x => !decide (0 ≤ x ∧ x < n)) l 0 with ⟨h1, h2⟩ | ⟨i, h1, h2, h3, x, h4, h5⟩
  · have : ofL l n = true := ofL_iff.2 (fun x hx => by have := h2 x hx; simpa using this)
    rw [h1, this]; rfl
  · have h6 : ¬ (0 ≤ x ∧ x < n) := fun hc => by rw [decide_eq_true hc] at h5; cases h5
    rw [ofL_no h4 h6, h2]
    simp
include hL
theorem containsFunc_a {H : Heap} {v : V} {l : List Int} {kf : Nat} {fs cs : List V} {p : Int → Bool} (hv : IsSl H v l) (hl : l.length < 4611686018427387904) (hf : ∀ x ∈ l, AFn L (.fn kf) (fs ++ [.int .i64 x] ++ cs) H (fun r H' => r = .bool (p x) ∧ H' = H)) : AFn L (.fn 21) [v, .fn kf fs cs] H (fun r H' => r = .bool (decide (0 ≤ findL p l 0)) ∧ H' = H) := by
  refine AFn.of_body (F := T21.1) (by rw [hL]; rfl) rfl ?_
  (repeat' (first | refine wSeq rfl ?_ | refine wBlock rfl ?_ | refine wSkip rfl ?_ | refine wExit rfl ?_ | refine wRet rfl ?_ | refine wCondT rfl rfl ?_ | refine wCondF rfl rfl ?_ | refine wOpsP rfl ?_ | refine wDraw rfl rfl ?_ | simp only [seval, push_cast, ↓reduceIte, ↓bP_some, ↓aP_true, reduceCtorEq]))
  refine opsP_all rfl (indexFunc_a hL hv hl hf) ?_
  rintro r h' ⟨rfl, rfl⟩
  (repeat' (first | refine wSeq rfl ?_ | refine wBlock rfl ?_ | refine wSkip rfl ?_ | refine wExit rfl ?_ | refine wRet rfl ?_ | refine wCondT rfl rfl ?_ | refine wCondF rfl rfl ?_ | refine wOps rfl ?_ | refine wDraw rfl rfl ?_ | simp only [seval, push_cast, ↓reduceIte, ↓bP_some, ↓aP_true, reduceCtorEq]))
  exact FnQ.at rfl ⟨rfl, rfl⟩
omit hL
theorem IsSl.nlv {H : Heap} {o : Nl Int} : IsSl H (nlv mrow 1 o) o.l := by
  obtain ⟨s, c, h1, h2⟩ := nlv_tl (f := mrow) (n := 1) (o := o)
  rw [h1]; exact IsSl.tl h2
theorem IsSl.one {H : Heap} {a : Nat} {x : Int} {c : Option Nat} (ha : H.get a = some (.arr 1 [[.int .i64 x]])) : IsSl H (.ref a 1 0 1 c) [x] :=
  ⟨rfl, fun i y hy => by
    match i with
    | 0 =>
      simp at hy; subst hy
      refine ⟨.ptr a 1 0 0, rfl, ?_⟩
      simp only [loadQ_ptr, ha]
      rfl
    | n + 1 => simp at hy⟩
include hL
end Go.Proofs.YtncdaicaljpgfaaGreat
