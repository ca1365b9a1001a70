/- What layer 8 computes, as plain functions on lists of numbers; laws about them. Nothing of the program is named here. · Laws about what layer 8 computes. Nothing of the program is named here. · More laws about what layer 8 computes. Nothing of the program is named here. · The favorite by scores, as the greatest mark that stands alone. Nothing of the program is named here. · Ballots as texts. Nothing of the program is named here. -/
import Derived.Lib.Slices
import Derived.Lib.ItoaNum
set_option linter.unusedVariables false
namespace Go.Proofs.YtncdaicaljpgfaaGreat
def inB (lo hi m : Int) : Bool := decide (lo ≤ m ∧ m < hi)
/-- A ballot is valid among so many candidates. -/
def fineL (k : Int) (l : List Int) (c : Int) : Bool :=
  if k = 3 then l.all (inB 0 11) && decide ((l.length : Int) = c)
  else if k = 1 then l.all (inB 0 c) && decide l.Nodup
  else if k = 2 then l.all (inB 0 c) && decide (l.Pairwise (· < ·))
  else false
def checkL (k : Int) (l : List Int) (c : Int) : Int := if c < 1 ∨ 10 < c then 2 else if fineL k l c = false then 8 else 0
def amongL (k : Int) (l : List Int) : Int := if k = 3 then (l.length : Int) else 10
def aloneL (k : Int) (l : List Int) : Bool := decide (checkL k l (amongL k l) = 0)
/-- The place of a number, or -1. -/
def placeL : List Int → Int → Int
  | [], _ => -1
  | a :: r, x => if a = x then 0 else if placeL r x < 0 then -1 else placeL r x + 1
/-- The mark at i is above all others. -/
def topAt (l : List Int) (i : Nat) (m : Int) : Bool := decide (0 < m) && (List.range l.length).all fun k => decide (k = i) || decide (l[k]?.getD 0 < m)
def topGo (l : List Int) : Nat → List Int → Int × Bool
  | _, [] => (0, false)
  | i, m :: r => if topAt l i m then ((i : Int), true) else topGo l (i + 1) r
def firstL (k : Int) (l : List Int) : Int × Bool :=
  if aloneL k l = false ∨ l = [] then (0, false)
  else if k = 1 ∨ k = 2 ∧ l.length = 1 then (l[0]?.getD 0, true)
  else if k = 2 then (0, false)
  else topGo l 0 l
def prefersL (k : Int) (l : List Int) (x y : Int) : Bool :=
  if x < 0 ∨ y < 0 then false
  else if k = 1 then decide (0 ≤ placeL l x) && (decide (placeL l y < 0) || decide (placeL l x < placeL l y))
  else if k = 2 then decide (0 ≤ placeL l x) && decide (placeL l y < 0)
  else if k = 3 then decide (x < l.length) && decide (y < l.length) && decide (l[y.toNat]?.getD 0 < l[x.toNat]?.getD 0)
  else false
def isLeft (left : List Bool) (c : Int) : Bool := decide (0 ≤ c) && left[c.toNat]?.getD false
def keepL (k : Int) (l : List Int) (left : List Bool) : List Int :=
  if k = 1 ∨ k = 2 then l.filter (isLeft left)
  else if k = 3 then l.mapIdx fun i m => if left[i]?.getD false then m else 0
  else l
def turnedL (p : List Int) : Bool := decide (1 ≤ p.length ∧ p.length ≤ 10) && (List.range p.length).all fun i => decide ((i : Int) ∈ p)
/-- A permutation's image of a number. -/
def imL (p : List Int) (m : Int) : Int := p[m.toNat]?.getD 0
def renameL (k : Int) (l p : List Int) : (Int × List Int) × Int :=
  if turnedL p = false then ((0, []), 2)
  else if fineL k l p.length = false then ((0, []), 8)
  else if k = 1 then ((k, l.map (imL p)), 0)
  else if k = 2 then ((k, ((List.range p.length).map Int.ofNat).filter fun c => decide (placeL p c ∈ l)), 0)
  else ((k, (List.range p.length).map fun (c : Nat) => l[(placeL p (c : Int)).toNat]?.getD 0), 0)
def aheadL : List Int → List Int → Bool
  | [], [] => false
  | [], _ :: _ => true
  | _ :: _, [] => false
  | a :: r, b :: s => if a = b then aheadL r s else decide (a < b)
def lessL (k : Int) (l : List Int) (j : Int) (m : List Int) : Bool := decide (k < j) || (decide (k = j) && aheadL l m)
def sameL (k : Int) (l : List Int) (j : Int) (m : List Int) : Bool := decide (k = j ∧ l = m)
end Go.Proofs.YtncdaicaljpgfaaGreat
set_option linter.unusedVariables false
namespace Go.Proofs.YtncdaicaljpgfaaGreat

theorem take_snoc {α : Type} {l : List α} {k : Nat} {x : α} (h : l[k]? = some x) : l.take (k + 1) = l.take k ++ [x] := by rw [List.take_add_one, h]; rfl
theorem drop_cons' {α : Type} {l : List α} {k : Nat} {x : α} (h : l[k]? = some x) : l.drop k = x :: l.drop (k + 1) := by
  obtain ⟨h1, rfl⟩ := List.getElem?_eq_some_iff.1 h
  exact List.drop_eq_getElem_cons h1
theorem mem_at {α : Type} {l : List α} {k : Nat} {x : α} (h : l[k]? = some x) : x ∈ l := List.mem_of_getElem? h
/-- The place of a number, counted from k on. -/
def placeGo (l : List Int) (x : Int) (k : Nat) : Int := if placeL (l.drop k) x < 0 then -1 else placeL (l.drop k) x + k
theorem place_ge : ∀ (l : List Int) (x : Int), -1 ≤ placeL l x
  | [], x => by simp [placeL]
  | a :: r, x => by
    rw [placeL]
    by_cases h : a = x
    · rw [if_pos h]; omega
    · rw [if_neg h]
      by_cases h2 : placeL r x < 0
      · rw [if_pos h2]; omega
      · rw [if_neg h2]; omega
theorem place_start (l : List Int) (x : Int) : placeL l x = placeGo l x 0 := by
  have := place_ge l x
  unfold placeGo
  rw [List.drop_zero]
  by_cases h : placeL l x < 0
  · rw [if_pos h]; omega
  · rw [if_neg h]; omega
theorem place_hit {l : List Int} {x a : Int} {k : Nat} (h : l[k]? = some a) (e : a = x) : placeGo l x k = k := by
  unfold placeGo
  rw [drop_cons' h, placeL, if_pos e, if_neg (by omega)]; omega
theorem place_miss {l : List Int} {x a : Int} {k : Nat} (h : l[k]? = some a) (e : a ≠ x) : placeGo l x k = placeGo l x (k + 1) := by
  unfold placeGo
  rw [drop_cons' h, placeL, if_neg e]
  by_cases h2 : placeL (l.drop (k + 1)) x < 0
  · rw [if_pos h2, if_pos h2, if_pos (by omega)]
  · rw [if_neg h2, if_neg h2, if_neg (by omega)]; omega
theorem place_end {l : List Int} {x : Int} {k : Nat} (h : ¬ k < l.length) : placeGo l x k = -1 := by
  unfold placeGo
  rw [List.drop_of_length_le (by omega), placeL, if_pos (by omega)]
theorem place_nonneg : ∀ (l : List Int) (x : Int), 0 ≤ placeL l x ↔ x ∈ l
  | [], x => by simp [placeL]
  | a :: r, x => by
    rw [placeL, List.mem_cons]
    by_cases h : a = x
    · rw [if_pos h]; simp [h]
    · rw [if_neg h]
      have ih := place_nonneg r x
      by_cases h2 : placeL r x < 0
      · rw [if_pos h2]
        constructor
        · intro h3; omega
        · rintro (h3 | h3)
          · exact absurd h3.symm h
          · have := ih.2 h3; omega
      · rw [if_neg h2]
        constructor
        · intro _; exact .inr (ih.1 (by omega))
        · intro _; omega
theorem place_get : ∀ (l : List Int) (x : Int), x ∈ l → l[(placeL l x).toNat]? = some x
  | [], x, h => by cases h
  | a :: r, x, h => by
    rw [placeL]
    by_cases e : a = x
    · rw [if_pos e]; simp [e]
    · rw [if_neg e]
      have hr : x ∈ r := by
        rcases List.mem_cons.1 h with h | h
        · exact absurd h.symm e
        · exact h
      have h0 := (place_nonneg r x).2 hr
      rw [if_neg (by omega), show (placeL r x + 1).toNat = (placeL r x).toNat + 1 by omega, List.getElem?_cons_succ]
      exact place_get r x hr
theorem place_lt (l : List Int) (x : Int) : placeL l x < l.length := by
  rcases Decidable.em (x ∈ l) with h | h
  · have := (List.getElem?_eq_some_iff.1 (place_get l x h)).1
    have := (place_nonneg l x).2 h
    omega
  · have := mt (place_nonneg l x).1 h; omega

/- Validity, read from the front. -/
theorem all_no {l : List Int} {p : Int → Bool} {x : Int} {k : Nat} (h : l[k]? = some x) (hp : p x = false) : l.all p = false := by
  cases hb : l.all p with
  | false => rfl
  | true => have := List.all_eq_true.1 hb x (mem_at h); rw [hp] at this; cases this
theorem inB_t {lo hi m : Int} (h : lo ≤ m) (h2 : m < hi) : inB lo hi m = true := decide_eq_true ⟨h, h2⟩
theorem inB_f {lo hi m : Int} (h : ¬ (lo ≤ m ∧ m < hi)) : inB lo hi m = false := decide_eq_false h
def Fine1 (l : List Int) (c : Int) (k : Nat) : Prop := (∀ m ∈ l.take k, 0 ≤ m ∧ m < c) ∧ (l.take k).Nodup
theorem fine1_zero (l : List Int) (c : Int) : Fine1 l c 0 := ⟨by simp, by simp⟩
theorem fine1_step {l : List Int} {c x : Int} {k : Nat} (h : Fine1 l c k) (hx : l[k]? = some x) (h1 : 0 ≤ x) (h2 : x < c) (hp : placeL (l.take k) x < 0) : Fine1 l c (k + 1) := by
  have hn : x ∉ l.take k := fun h => by have := (place_nonneg _ _).2 h; omega
  unfold Fine1
  rw [take_snoc hx]
  refine ⟨fun m hm => ?_, ?_⟩
  · rcases List.mem_append.1 hm with hm | hm
    · exact h.1 m hm
    · simp at hm; subst hm; exact ⟨h1, h2⟩
  · rw [List.nodup_append]
    refine ⟨h.2, by simp, fun a ha b hb e => ?_⟩
    simp at hb; subst hb; subst e; exact hn ha
theorem fine1_ok {l : List Int} {c : Int} {k : Nat} (h : Fine1 l c k) (hk : ¬ k < l.length) : fineL 1 l c = true := by
  unfold Fine1 at h
  rw [List.take_of_length_le (by omega)] at h
  unfold fineL
  rw [if_neg (by decide), if_pos rfl, Bool.and_eq_true]
  exact ⟨List.all_eq_true.2 fun m hm => inB_t (h.1 m hm).1 (h.1 m hm).2, decide_eq_true h.2⟩
theorem fine1_out {l : List Int} {c x : Int} {k : Nat} (hx : l[k]? = some x) (h : ¬ (0 ≤ x ∧ x < c)) : fineL 1 l c = false := by
  unfold fineL; rw [if_neg (by decide), if_pos rfl, all_no hx (inB_f h)]; rfl
theorem fine1_dup {l : List Int} {c x : Int} {k : Nat} (hx : l[k]? = some x) (h : 0 ≤ placeL (l.take k) x) : fineL 1 l c = false := by
  have hn := (place_nonneg _ _).1 h
  unfold fineL
  rw [if_neg (by decide), if_pos rfl, decide_eq_false, Bool.and_false]
  intro hd
  have h2 : (l.take (k + 1)).Nodup := hd.sublist (List.take_sublist _ _)
  rw [take_snoc hx, List.nodup_append] at h2
  exact h2.2.2 x hn x (by simp) rfl
def Fine2 (l : List Int) (c : Int) (k : Nat) : Prop := (∀ m ∈ l.take k, 0 ≤ m ∧ m < c) ∧ (l.take k).Pairwise (· < ·)
theorem fine2_zero (l : List Int) (c : Int) : Fine2 l c 0 := ⟨by simp, by simp⟩
/-- In a rising list the last element is the greatest. -/
theorem rise_last {l : List Int} {k : Nat} {y m : Int} (h : (l.take (k + 1)).Pairwise (· < ·)) (hy : l[k]? = some y) (hm : m ∈ l.take (k + 1)) : m ≤ y := by
  rw [take_snoc hy, List.pairwise_append] at h
  rw [take_snoc hy] at hm
  rcases List.mem_append.1 hm with hm | hm
  · exact Int.le_of_lt (h.2.2 m hm y (by simp))
  · simp at hm; omega
theorem fine2_step {l : List Int} {c x : Int} {k : Nat} (h : Fine2 l c k) (hx : l[k]? = some x) (h1 : 0 ≤ x) (h2 : x < c) (hr : ∀ m ∈ l.take k, m < x) : Fine2 l c (k + 1) := by
  unfold Fine2
  rw [take_snoc hx]
  refine ⟨fun m hm => ?_, ?_⟩
  · rcases List.mem_append.1 hm with hm | hm
    · exact h.1 m hm
    · simp at hm; subst hm; exact ⟨h1, h2⟩
  · rw [List.pairwise_append]
    exact ⟨h.2, by simp, fun a ha b hb => by simp at hb; subst hb; exact hr a ha⟩
theorem fine2_above {l : List Int} {c y x : Int} {k : Nat} (h : Fine2 l c (k + 1)) (hy : l[k]? = some y) (hx : y < x) : ∀ m ∈ l.take (k + 1), m < x := fun m hm => by
  have := rise_last h.2 hy hm; omega
theorem fine2_none {l : List Int} {x : Int} {k : Nat} (h : ∀ m ∈ l.take k, m < x) : placeL (l.take k) x < 0 := by
  rcases Int.lt_or_le (placeL (l.take k) x) 0 with h1 | h1
  · exact h1
  · have := h x ((place_nonneg _ _).1 h1); omega
theorem fine2_ok {l : List Int} {c : Int} {k : Nat} (h : Fine2 l c k) (hk : ¬ k < l.length) : fineL 2 l c = true := by
  unfold Fine2 at h
  rw [List.take_of_length_le (by omega)] at h
  unfold fineL
  rw [if_neg (by decide), if_neg (by decide), if_pos rfl, Bool.and_eq_true]
  exact ⟨List.all_eq_true.2 fun m hm => inB_t (h.1 m hm).1 (h.1 m hm).2, decide_eq_true h.2⟩
theorem fine2_out {l : List Int} {c x : Int} {k : Nat} (hx : l[k]? = some x) (h : ¬ (0 ≤ x ∧ x < c)) : fineL 2 l c = false := by
  unfold fineL; rw [if_neg (by decide), if_neg (by decide), if_pos rfl, all_no hx (inB_f h)]; rfl
theorem fine2_low {l : List Int} {c x y : Int} {k : Nat} (hy : l[k]? = some y) (hx : l[k + 1]? = some x) (h : x ≤ y) : fineL 2 l c = false := by
  unfold fineL
  rw [if_neg (by decide), if_neg (by decide), if_pos rfl, decide_eq_false, Bool.and_false]
  intro hd
  have h2 : (l.take (k + 1 + 1)).Pairwise (· < ·) := hd.sublist (List.take_sublist _ _)
  rw [take_snoc hx, take_snoc hy, List.pairwise_append] at h2
  have := h2.2.2 y (by simp) x (by simp)
  omega
def Fine3 (l : List Int) (k : Nat) : Prop := ∀ m ∈ l.take k, 0 ≤ m ∧ m < 11
theorem fine3_zero (l : List Int) : Fine3 l 0 := by simp [Fine3]
theorem fine3_step {l : List Int} {x : Int} {k : Nat} (h : Fine3 l k) (hx : l[k]? = some x) (h1 : 0 ≤ x) (h2 : x < 11) : Fine3 l (k + 1) := by
  unfold Fine3
  rw [take_snoc hx]
  intro m hm
  rcases List.mem_append.1 hm with hm | hm
  · exact h m hm
  · simp at hm; subst hm; exact ⟨h1, h2⟩
theorem fine3_ok {l : List Int} {c : Int} {k : Nat} (h : Fine3 l k) (hk : ¬ k < l.length) : fineL 3 l c = decide ((l.length : Int) = c) := by
  unfold Fine3 at h
  rw [List.take_of_length_le (by omega)] at h
  unfold fineL
  rw [if_pos rfl, show l.all (inB 0 11) = true from List.all_eq_true.2 fun m hm => inB_t (h m hm).1 (h m hm).2, Bool.true_and]
theorem fine3_out {l : List Int} {c x : Int} {k : Nat} (hx : l[k]? = some x) (h : ¬ (0 ≤ x ∧ x < 11)) : fineL 3 l c = false := by
  unfold fineL; rw [if_pos rfl, all_no hx (inB_f h)]; rfl
theorem fine_else {k : Int} {l : List Int} {c : Int} (h1 : k ≠ 1) (h2 : k ≠ 2) (h3 : k ≠ 3) : fineL k l c = false := by
  unfold fineL; rw [if_neg h3, if_neg h1, if_neg h2]

/- The favorite by scores. -/
def topTo (l : List Int) (i : Nat) (m : Int) (K : Nat) : Bool := decide (0 < m) && (List.range K).all fun k => decide (k = i) || decide (l[k]?.getD 0 < m)
theorem top_to (l : List Int) (i : Nat) (m : Int) : topAt l i m = topTo l i m l.length := rfl
theorem top_zero (l : List Int) (i : Nat) (m : Int) : topTo l i m 0 = decide (0 < m) := by simp [topTo]
theorem top_succ (l : List Int) (i : Nat) (m : Int) (K : Nat) : topTo l i m (K + 1) = (topTo l i m K && (decide (K = i) || decide (l[K]?.getD 0 < m))) := by
  unfold topTo; rw [List.range_succ, List.all_append]; simp [Bool.and_assoc]
theorem top_own {l : List Int} {i : Nat} {m : Int} {b : Bool} (h : topTo l i m i = b) : topTo l i m (i + 1) = b := by rw [top_succ, h]; simp
theorem top_other {l : List Int} {i K : Nat} {m y : Int} (h : topTo l i m K = true) (hy : l[K]? = some y) (hne : K ≠ i) : topTo l i m (K + 1) = decide (y < m) := by rw [top_succ, h, hy]; simp [hne]
theorem top_false {l : List Int} {i K : Nat} {m : Int} (h : topTo l i m K = false) : topTo l i m (K + 1) = false := by rw [top_succ, h]; rfl
theorem topGo_yes {l : List Int} {i : Nat} {m : Int} (hm : l[i]? = some m) (h : topTo l i m l.length = true) : topGo l i (l.drop i) = ((i : Int), true) := by
  rw [drop_cons' hm, topGo, top_to, h, if_pos rfl]
theorem topGo_no {l : List Int} {i : Nat} {m : Int} (hm : l[i]? = some m) (h : topTo l i m l.length = false) : topGo l i (l.drop i) = topGo l (i + 1) (l.drop (i + 1)) := by
  rw [drop_cons' hm, topGo, top_to, h, if_neg (by simp)]
theorem topGo_end {l : List Int} {i : Nat} (h : ¬ i < l.length) : topGo l i (l.drop i) = (0, false) := by
  rw [List.drop_of_length_le (by omega), topGo]
theorem alone_of {k : Int} {l : List Int} (h : checkL k l (amongL k l) = 0) : aloneL k l = true := by unfold aloneL; rw [h]; rfl
theorem alone_kind {k : Int} {l : List Int} (h : checkL k l (amongL k l) = 0) : k = 1 ∨ k = 2 ∨ k = 3 := by
  unfold checkL at h
  by_cases h0 : amongL k l < 1 ∨ 10 < amongL k l
  · rw [if_pos h0] at h; cases h
  · rw [if_neg h0] at h
    by_cases h1 : fineL k l (amongL k l) = false
    · rw [if_pos h1] at h; cases h
    · unfold fineL at h1
      by_cases h3 : k = 3
      · exact .inr (.inr h3)
      · by_cases h2 : k = 2
        · exact .inr (.inl h2)
        · by_cases h5 : k = 1
          · exact .inl h5
          · rw [if_neg h3, if_neg h5, if_neg h2] at h1; exact absurd rfl h1
theorem first_one {l : List Int} {x : Int} (ha : aloneL 1 l = true) (hx : l[0]? = some x) : firstL 1 l = (x, true) := by
  unfold firstL
  rw [if_neg (by rw [ha]; simp; rintro rfl; simp at hx), if_pos (.inl rfl), hx]; rfl
theorem first_mark {l : List Int} {x : Int} (ha : aloneL 2 l = true) (hx : l[0]? = some x) (h1 : l.length = 1) : firstL 2 l = (x, true) := by
  unfold firstL
  rw [if_neg (by rw [ha]; simp; rintro rfl; simp at hx), if_pos (.inr ⟨rfl, h1⟩), hx]; rfl
theorem first_marks {l : List Int} {x : Int} (ha : aloneL 2 l = true) (hx : l[0]? = some x) (h1 : l.length ≠ 1) : firstL 2 l = (0, false) := by
  unfold firstL
  rw [if_neg (by rw [ha]; simp; rintro rfl; simp at hx), if_neg (by simp [h1]), if_pos rfl]
theorem first_score {l : List Int} {x : Int} (ha : aloneL 3 l = true) (hx : l[0]? = some x) : firstL 3 l = topGo l 0 (l.drop 0) := by
  unfold firstL
  rw [if_neg (by rw [ha]; simp; rintro rfl; simp at hx), if_neg (by simp), if_neg (by simp), List.drop_zero]
end Go.Proofs.YtncdaicaljpgfaaGreat
set_option linter.unusedVariables false
namespace Go.Proofs.YtncdaicaljpgfaaGreat

/-- From i on neighbours are in order. -/
def AdjUp (l : List Int) (i : Nat) : Prop := ∀ (j : Nat) (x y : Int), i ≤ j → l[j]? = some x → l[j + 1]? = some y → x ≤ y
theorem adj_start (l : List Int) {i : Nat} (h : l.length ≤ i + 1) : AdjUp l i := fun j x y hj _ hy => by
  have := (List.getElem?_eq_some_iff.1 hy).1; omega
theorem adj_step {l : List Int} {i : Nat} {x y : Int} (h : AdjUp l (i + 1)) (hx : l[i]? = some x) (hy : l[i + 1]? = some y) (hxy : x ≤ y) : AdjUp l i := fun j a b hj ha hb => by
  by_cases he : j = i
  · subst he; rw [hx] at ha; rw [hy] at hb; cases ha; cases hb; exact hxy
  · exact h j a b (by omega) ha hb
theorem adj_pw : ∀ (l : List Int), AdjUp l 0 → l.Pairwise (· ≤ ·)
  | [], _ => List.Pairwise.nil
  | [a], _ => by simp
  | a :: b :: r, h => by
    have hr := adj_pw (b :: r) (fun j x y hj hx hy => h (j + 1) x y (by omega) (by simpa using hx) (by simpa using hy))
    refine List.Pairwise.cons (fun c hc => ?_) hr
    have hab : a ≤ b := h 0 a b (by omega) rfl rfl
    rcases List.mem_cons.1 hc with rfl | hc
    · exact hab
    · exact Int.le_trans hab ((List.pairwise_cons.1 hr).1 c hc)
theorem adj_no {l : List Int} {i : Nat} {x y : Int} (hx : l[i]? = some x) (hy : l[i + 1]? = some y) (hxy : y < x) : ¬ l.Pairwise (· ≤ ·) := fun h => by
  have h2 : (l.take (i + 1 + 1)).Pairwise (· ≤ ·) := h.sublist (List.take_sublist _ _)
  rw [take_snoc hy, take_snoc hx, List.pairwise_append] at h2
  have := h2.2.2 x (by simp) y (by simp)
  omega
theorem pw_lt_iff (l : List Int) : l.Pairwise (· < ·) ↔ (l.Pairwise (· ≤ ·) ∧ l.Nodup) := by
  constructor
  · intro h
    exact ⟨h.imp (fun h => Int.le_of_lt h), h.imp (fun h => by omega)⟩
  · rintro ⟨h1, h2⟩
    exact (h1.and h2).imp (fun h => by omega)
def RangeTo (l : List Int) (hi : Int) (n : Nat) : Prop := ∀ m ∈ l.take n, 0 ≤ m ∧ m < hi
theorem range_zero (l : List Int) (hi : Int) : RangeTo l hi 0 := by simp [RangeTo]
theorem range_step {l : List Int} {hi x : Int} {n : Nat} (h : RangeTo l hi n) (hx : l[n]? = some x) (h1 : 0 ≤ x) (h2 : x < hi) : RangeTo l hi (n + 1) := by
  unfold RangeTo
  rw [take_snoc hx]
  intro m hm
  rcases List.mem_append.1 hm with hm | hm
  · exact h m hm
  · simp at hm; subst hm; exact ⟨h1, h2⟩
theorem range_all {l : List Int} {hi : Int} {n : Nat} (h : RangeTo l hi n) (hn : ¬ n < l.length) : l.all (inB 0 hi) = true := by
  unfold RangeTo at h
  rw [List.take_of_length_le (by omega)] at h
  exact List.all_eq_true.2 fun m hm => inB_t (h m hm).1 (h m hm).2
theorem fine_out {k : Int} {l : List Int} {c x : Int} {n : Nat} (h3 : k ≠ 3) (hx : l[n]? = some x) (h : ¬ (0 ≤ x ∧ x < c)) : fineL k l c = false := by
  unfold fineL
  rw [if_neg h3, all_no hx (inB_f h)]
  simp
theorem fine_one {l : List Int} {c : Int} (h : l.all (inB 0 c) = true) : fineL 1 l c = decide l.Nodup := by
  unfold fineL; rw [if_neg (by decide), if_pos rfl, h, Bool.true_and]
theorem fine_two {l : List Int} {c : Int} (h : l.all (inB 0 c) = true) (h2 : l.Pairwise (· ≤ ·)) : fineL 2 l c = decide l.Nodup := by
  unfold fineL; rw [if_neg (by decide), if_neg (by decide), if_pos rfl, h, Bool.true_and]
  exact decide_eq_decide.2 (by rw [pw_lt_iff]; exact ⟨fun h => h.2, fun h => ⟨h2, h⟩⟩)
theorem fine_two_no {l : List Int} {c : Int} (h2 : ¬ l.Pairwise (· ≤ ·)) : fineL 2 l c = false := by
  unfold fineL; rw [if_neg (by decide), if_neg (by decide), if_pos rfl, decide_eq_false, Bool.and_false]
  exact fun h => h2 ((pw_lt_iff l).1 h).1
theorem fine_three {l : List Int} {c : Int} (h : l.all (inB 0 11) = true) : fineL 3 l c = decide ((l.length : Int) = c) := by
  unfold fineL; rw [if_pos rfl, h, Bool.true_and]
theorem nodup_step {l : List Int} {n : Nat} {x : Int} (h : (l.take n).Nodup) (hx : l[n]? = some x) (hn : x ∉ l.take n) : (l.take (n + 1)).Nodup := by
  rw [take_snoc hx, List.nodup_append]
  refine ⟨h, by simp, fun a ha b hb e => ?_⟩
  simp at hb; subst hb; subst e; exact hn ha
theorem nodup_dup {l : List Int} {n : Nat} {x : Int} (hx : l[n]? = some x) (hn : x ∈ l.take n) : decide l.Nodup = false := decide_eq_false fun hd => by
  have h2 : (l.take (n + 1)).Nodup := hd.sublist (List.take_sublist _ _)
  rw [take_snoc hx, List.nodup_append] at h2
  exact h2.2.2 x hn x (by simp) rfl
theorem nodup_end {l : List Int} {n : Nat} (h : (l.take n).Nodup) (hn : ¬ n < l.length) : decide l.Nodup = true := by
  rw [List.take_of_length_le (by omega)] at h; exact decide_eq_true h
end Go.Proofs.YtncdaicaljpgfaaGreat
set_option linter.unusedVariables false
namespace Go.Proofs.YtncdaicaljpgfaaGreat

theorem fold_max : ∀ (l : List Int) (a : Int), (l.foldl max a = a ∨ l.foldl max a ∈ l) ∧ a ≤ l.foldl max a ∧ ∀ m ∈ l, m ≤ l.foldl max a
  | [], a => ⟨.inl rfl, Int.le_refl _, by simp⟩
  | b :: r, a => by
    rw [List.foldl_cons]
    obtain ⟨h1, h2, h3⟩ := fold_max r (max a b)
    refine ⟨?_, by omega, fun m hm => ?_⟩
    · rcases h1 with h1 | h1
      · rw [h1]
        by_cases h : a ≤ b
        · exact .inr (by rw [Int.max_eq_right h]; simp)
        · exact .inl (Int.max_eq_left (by omega))
      · exact .inr (List.mem_cons_of_mem _ h1)
    · rcases List.mem_cons.1 hm with rfl | hm
      · omega
      · exact h3 m hm
theorem max_spec {l : List Int} (h : l ≠ []) : Lib.maxOf l ∈ l ∧ ∀ m ∈ l, m ≤ Lib.maxOf l := by
  cases l with
  | nil => exact absurd rfl h
  | cons a r =>
    have hm : Lib.maxOf (a :: r) = (a :: r).foldl max a := rfl
    obtain ⟨h1, h2, h3⟩ := fold_max (a :: r) a
    rw [hm]
    refine ⟨?_, h3⟩
    rcases h1 with h1 | h1
    · rw [h1]; simp
    · exact h1
/-- The places below n at which M stands. -/
def placesTo (l : List Int) (M : Int) (n : Nat) : List Nat := (List.range n).filter fun k => decide (l[k]? = some M)
theorem places_hit {l : List Int} {M x : Int} {n : Nat} (h : l[n]? = some x) (e : x = M) : (placesTo l M (n + 1)).length = (placesTo l M n).length + 1 := by
  unfold placesTo
  rw [List.range_succ, List.filter_append, List.length_append]
  subst e
  simp [h]
theorem places_miss {l : List Int} {M x : Int} {n : Nat} (h : l[n]? = some x) (e : x ≠ M) : (placesTo l M (n + 1)).length = (placesTo l M n).length := by
  unfold placesTo
  rw [List.range_succ, List.filter_append, List.length_append]
  simp [h, e]
theorem places_le (l : List Int) (M : Int) (n : Nat) : (placesTo l M n).length ≤ n := by
  unfold placesTo
  exact Nat.le_trans (List.length_filter_le _ _) (by simp)
theorem places_mem {l : List Int} {M : Int} {n k : Nat} : k ∈ placesTo l M n ↔ k < n ∧ l[k]? = some M := by
  unfold placesTo; simp
theorem places_nodup (l : List Int) (M : Int) (n : Nat) : (placesTo l M n).Nodup := List.Nodup.sublist List.filter_sublist List.nodup_range
theorem topAt_iff {l : List Int} {i : Nat} {m : Int} : topAt l i m = true ↔ 0 < m ∧ ∀ k, k < l.length → k ≠ i → l[k]?.getD 0 < m := by
  unfold topAt
  rw [Bool.and_eq_true, decide_eq_true_eq, List.all_eq_true]
  constructor
  · rintro ⟨h1, h2⟩
    refine ⟨h1, fun k hk hne => ?_⟩
    have := h2 k (by simpa using hk)
    simpa [hne] using this
  · rintro ⟨h1, h2⟩
    refine ⟨h1, fun k hk => ?_⟩
    by_cases hne : k = i
    · simp [hne]
    · simp [hne, h2 k (by simpa using hk) hne]
theorem topGo_none {l : List Int} (h : ∀ (i : Nat) (m : Int), l[i]? = some m → topAt l i m = false) : ∀ (d i : Nat), i + d = l.length → topGo l i (l.drop i) = (0, false)
  | 0, i, hi => topGo_end (by omega)
  | d + 1, i, hi => by
    obtain ⟨m, hm⟩ : ∃ m, l[i]? = some m := ⟨_, List.getElem?_eq_getElem (by omega)⟩
    rw [topGo_no hm (h i m hm)]
    exact topGo_none h d (i + 1) (by omega)
theorem topGo_at {l : List Int} {p : Nat} {M : Int} (hp : l[p]? = some M) (ht : topAt l p M = true) (h : ∀ (i : Nat) (m : Int), i < p → l[i]? = some m → topAt l i m = false) : ∀ (d i : Nat), i + d = p → topGo l i (l.drop i) = ((p : Int), true)
  | 0, i, hi => by
    obtain rfl : i = p := by omega
    exact topGo_yes hp ht
  | d + 1, i, hi => by
    have hl := (List.getElem?_eq_some_iff.1 hp).1
    obtain ⟨m, hm⟩ : ∃ m, l[i]? = some m := ⟨_, List.getElem?_eq_getElem (by omega)⟩
    rw [topGo_no hm (h i m (by omega) hm)]
    exact topGo_at hp ht h d (i + 1) (by omega)
theorem top_low {l : List Int} (hne : l ≠ []) (h : Lib.maxOf l ≤ 0) : topGo l 0 (l.drop 0) = (0, false) := by
  refine topGo_none (fun i m hm => ?_) l.length 0 (by omega)
  cases hb : topAt l i m with
  | false => rfl
  | true => have := (topAt_iff.1 hb).1; have := (max_spec hne).2 m (mem_at hm); omega
theorem top_two {l : List Int} (hne : l ≠ []) (h : 1 < (placesTo l (Lib.maxOf l) l.length).length) : topGo l 0 (l.drop 0) = (0, false) := by
  refine topGo_none (fun i m hm => ?_) l.length 0 (by omega)
  cases hb : topAt l i m with
  | false => rfl
  | true =>
    obtain ⟨h1, h2⟩ := topAt_iff.1 hb
    have hn := places_nodup l (Lib.maxOf l) l.length
    have hle := (max_spec hne).2 m (mem_at hm)
    match hS : placesTo l (Lib.maxOf l) l.length, h with
    | a :: b :: r, _ =>
      rw [hS] at hn
      have hab : a ≠ b := by
        intro e
        have := (List.nodup_cons.1 hn).1
        rw [e] at this; simp at this
      have ha := places_mem.1 (show a ∈ placesTo l (Lib.maxOf l) l.length by rw [hS]; simp)
      have hb := places_mem.1 (show b ∈ placesTo l (Lib.maxOf l) l.length by rw [hS]; simp)
      by_cases hai : a = i
      · have := h2 b hb.1 (by omega)
        rw [hb.2] at this
        simp at this; omega
      · have := h2 a ha.1 hai
        rw [ha.2] at this
        simp at this; omega
theorem top_one {l : List Int} (hne : l ≠ []) (hpos : 0 < Lib.maxOf l) (h : ¬ 1 < (placesTo l (Lib.maxOf l) l.length).length) : topGo l 0 (l.drop 0) = (placeL l (Lib.maxOf l), true) := by
  obtain ⟨hM, hmax⟩ := max_spec hne
  have hp := place_get l _ hM
  have hp0 := (place_nonneg l _).2 hM
  have hpl := (List.getElem?_eq_some_iff.1 hp).1
  have hone : ∀ k, k < l.length → l[k]? = some (Lib.maxOf l) → k = (placeL l (Lib.maxOf l)).toNat := by
    intro k hk hk2
    have h1 := places_mem.2 ⟨hk, hk2⟩
    have h2 := places_mem.2 ⟨hpl, hp⟩
    match hS : placesTo l (Lib.maxOf l) l.length, h with
    | [], _ => rw [hS] at h1; cases h1
    | [a], _ =>
      rw [hS] at h1 h2
      simp at h1 h2
      omega
    | a :: b :: r, h3 => exact absurd (by simp) h3
  have ht : topAt l (placeL l (Lib.maxOf l)).toNat (Lib.maxOf l) = true := topAt_iff.2 ⟨hpos, fun k hk hne2 => by
    obtain ⟨x, hx⟩ : ∃ x, l[k]? = some x := ⟨_, List.getElem?_eq_getElem hk⟩
    rw [hx]
    have h1 := hmax x (mem_at hx)
    have h2 : x ≠ Lib.maxOf l := fun e => hne2 (hone k hk (by rw [hx, e]))
    simp; omega⟩
  have := topGo_at hp ht (fun i m hi hm => by
    cases hb : topAt l i m with
    | false => rfl
    | true =>
      have h1 := (topAt_iff.1 hb).2 _ hpl (by omega)
      rw [hp] at h1
      have h2 := hmax m (mem_at hm)
      simp at h1; omega) (placeL l (Lib.maxOf l)).toNat 0 (by omega)
  rw [this, Int.toNat_of_nonneg hp0]
theorem alone_score_pos {l : List Int} (h : aloneL 3 l = true) : ∀ m ∈ l, 0 ≤ m ∧ m < 11 := by
  unfold aloneL checkL at h
  by_cases h0 : amongL 3 l < 1 ∨ 10 < amongL 3 l
  · rw [if_pos h0] at h; cases h
  · rw [if_neg h0] at h
    cases hf : fineL 3 l (amongL 3 l) with
    | false => rw [hf, if_pos rfl] at h; cases h
    | true =>
      unfold fineL at hf
      rw [if_pos rfl, Bool.and_eq_true] at hf
      intro m hm
      have := List.all_eq_true.1 hf.1 m hm
      simpa [inB] using this
end Go.Proofs.YtncdaicaljpgfaaGreat
set_option linter.unusedVariables false
namespace Go.Proofs.YtncdaicaljpgfaaGreat
/-- The decimal digits of a number below 100. -/
def dig (n : Nat) : List UInt8 := if n < 10 then [UInt8.ofNat (48 + n)] else [UInt8.ofNat (48 + n / 10), UInt8.ofNat (48 + n % 10)]
theorem dig_dec {n : Nat} (h : n < 100) : Lib.decDigits n = dig n := by
  rw [Lib.decDigits, dig]
  by_cases h1 : n < 10
  · rw [dif_pos h1, if_pos h1]
  · rw [dif_neg h1, if_neg h1, Lib.decDigits, dif_pos (by omega)]; rfl
theorem dig_len (n : Nat) : (dig n).length ≤ 2 := by
  rw [dig]
  by_cases h1 : n < 10
  · rw [if_pos h1]; simp
  · rw [if_neg h1]; simp
def nameL (k : Int) : List UInt8 := if k = 1 then [114, 97, 110, 107] else if k = 2 then [109, 97, 114, 107] else if k = 3 then [115, 99, 111, 114, 101] else []
theorem name_len (k : Int) : (nameL k).length ≤ 5 := by
  unfold nameL
  by_cases h1 : k = 1
  · rw [if_pos h1]; simp
  · rw [if_neg h1]
    by_cases h2 : k = 2
    · rw [if_pos h2]; simp
    · rw [if_neg h2]
      by_cases h3 : k = 3
      · rw [if_pos h3]; simp
      · rw [if_neg h3]; simp
def marksL (t : List Int) : List UInt8 := t.flatMap fun m => 32 :: dig m.toNat
theorem marks_snoc (t : List Int) (m : Int) : marksL (t ++ [m]) = marksL t ++ ([32] ++ dig m.toNat) := by simp [marksL]
theorem marks_len : ∀ t : List Int, (marksL t).length ≤ 3 * t.length
  | [] => by simp [marksL]
  | m :: r => by
    have h1 := marks_len r
    have h2 := dig_len m.toNat
    have e : marksL (m :: r) = (32 :: dig m.toNat) ++ marksL r := by simp [marksL]
    rw [e, List.length_append, List.length_cons, List.length_cons]; omega
def btextL (k : Int) (l : List Int) : List UInt8 × Int := if aloneL k l = false then ([], 8) else (nameL k ++ marksL l, 0)
theorem btext_bad {k : Int} {l : List Int} (h : aloneL k l = false) : btextL k l = ([], 8) := by unfold btextL; rw [if_pos h]
theorem btext_ok {k : Int} {l : List Int} (h : aloneL k l = true) : btextL k l = (nameL k ++ marksL l, 0) := by unfold btextL; rw [if_neg (by rw [h]; simp)]
/-- The number below 20 that is written so, or -1. -/
def numberGo (s : List UInt8) : Nat → Nat → Int
  | 0, _ => -1
  | d + 1, n => if dig n = s then (n : Int) else numberGo s d (n + 1)
def numberL (s : List UInt8) : Int := numberGo s 20 0
theorem number_hit {s : List UInt8} {n : Nat} (hn : n < 20) (h : dig n = s) : numberGo s (20 - n) n = (n : Int) := by
  obtain ⟨d, hd⟩ : ∃ d, 20 - n = d + 1 := ⟨19 - n, by omega⟩
  rw [hd, numberGo, if_pos h]
theorem number_miss {s : List UInt8} {n : Nat} (hn : n < 20) (h : dig n ≠ s) : numberGo s (20 - n) n = numberGo s (20 - (n + 1)) (n + 1) := by
  obtain ⟨d, hd⟩ : ∃ d, 20 - n = d + 1 := ⟨19 - n, by omega⟩
  rw [hd, numberGo, if_neg h, show 20 - (n + 1) = d by omega]
theorem number_end {s : List UInt8} {n : Nat} (hn : ¬ n < 20) : numberGo s (20 - n) n = -1 := by
  rw [show 20 - n = 0 by omega, numberGo]
theorem alone_marks {k : Int} {l : List Int} (h : aloneL k l = true) : ∀ m ∈ l, 0 ≤ m ∧ m < 11 := by
  have hc : checkL k l (amongL k l) = 0 := by unfold aloneL at h; exact of_decide_eq_true h
  have hk := alone_kind hc
  unfold checkL at hc
  by_cases h0 : amongL k l < 1 ∨ 10 < amongL k l
  · rw [if_pos h0] at hc; cases hc
  · rw [if_neg h0] at hc
    cases hf : fineL k l (amongL k l) with
    | false => rw [hf, if_pos rfl] at hc; cases hc
    | true =>
      unfold fineL at hf
      intro m hm
      rcases hk with rfl | rfl | rfl
      · rw [if_neg (by decide), if_pos rfl, Bool.and_eq_true] at hf
        have := List.all_eq_true.1 hf.1 m hm
        unfold inB amongL at this
        rw [if_neg (by decide)] at this
        have := of_decide_eq_true this
        omega
      · rw [if_neg (by decide), if_neg (by decide), if_pos rfl, Bool.and_eq_true] at hf
        have := List.all_eq_true.1 hf.1 m hm
        unfold inB amongL at this
        rw [if_neg (by decide)] at this
        have := of_decide_eq_true this
        omega
      · rw [if_pos rfl, Bool.and_eq_true] at hf
        have := List.all_eq_true.1 hf.1 m hm
        exact of_decide_eq_true this
theorem turned_no {p : List Int} {i : Nat} (hi : i < p.length) (h : placeL p (i : Int) < 0) : turnedL p = false := by
  unfold turnedL
  have : (List.range p.length).all (fun i => decide ((i : Int) ∈ p)) = false := by
    cases hb : (List.range p.length).all (fun i => decide ((i : Int) ∈ p)) with
    | false => rfl
    | true =>
      have := List.all_eq_true.1 hb i (by simpa using hi)
      have := (place_nonneg _ _).2 (of_decide_eq_true this)
      omega
  rw [this, Bool.and_false]
theorem turned_yes {p : List Int} (h : ∀ i : Nat, i < p.length → 0 ≤ placeL p (i : Int)) : turnedL p = decide (1 ≤ p.length ∧ p.length ≤ 10) := by
  unfold turnedL
  have : (List.range p.length).all (fun i => decide ((i : Int) ∈ p)) = true := List.all_eq_true.2 fun i hi => decide_eq_true ((place_nonneg _ _).1 (h i (by simpa using hi)))
  rw [this, Bool.and_true]
end Go.Proofs.YtncdaicaljpgfaaGreat
