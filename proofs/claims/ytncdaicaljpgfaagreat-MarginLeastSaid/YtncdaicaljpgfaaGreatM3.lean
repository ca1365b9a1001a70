/- What layer 8 computes, as plain functions on lists of numbers; laws about them. Nothing of the program is named here. · Laws about what layer 8 computes. Nothing of the program is named here. · More laws about what layer 8 computes. Nothing of the program is named here. · Ballots as texts. Nothing of the program is named here. · Plain laws of what is kept of a ballot. · Sorted lists and permutations. Nothing of the program is named here. · Plain laws of permutations and of sorted lists. · Plain laws of renaming a ballot. · Outcomes: seats, renaming, comparing, as plain functions. Nothing of the program is named here. · Gains: the least number of ballots whose gains add up to a need, whichever order equal gains stand in. Nothing of the program is named here. · Gains: the reference picks the best row that is not used, again and again; the rows as it picks them are the rows in order. Nothing of the program is named here. · The favorite by scores, as the greatest mark that stands alone. Nothing of the program is named here. -/
import Derived.Lib.ItoaNum
import Derived.Test.YtncdaicaljpgfaaGreatM1
import Derived.Test.YtncdaicaljpgfaaGreatM2
import Derived.Handy
import Derived.Lib.Slices
set_option linter.unusedVariables false
namespace Go.Proofs.YtncdaicaljpgfaaGreat
def inB (lo hi m : Int) : Bool := decide (lo ≤ m ∧ m < hi)
/-- A ballot is valid among so many candidates. -/
def fineL (k : Int) (l : List Int) (c : Int) : Bool :=
  if k = 3 then l.all (inB 0 11) && decide ((l.length : Int) = c)
  else if k = 1 then l.all (inB 0 c) && decide l.Nodup
  else if k = 2 then l.all (inB 0 c) && decide (l.Pairwise (· < ·))
  else false
def checkL (k : Int) (l : List Int) (c : Int) : Int := if c < 1 ∨ 10 < c then 2 else if fineL k l c = false then 8 else 0
def amongL (k : Int) (l : List Int) : Int := if k = 3 then (l.length : Int) else 10
def aloneL (k : Int) (l : List Int) : Bool := decide (checkL k l (amongL k l) = 0)
/-- The place of a number, or -1. -/
def placeL : List Int → Int → Int
  | [], _ => -1
  | a :: r, x => if a = x then 0 else if placeL r x < 0 then -1 else placeL r x + 1
/-- The mark at i is above all others. -/
def topAt (l : List Int) (i : Nat) (m : Int) : Bool := decide (0 < m) && (List.range l.length).all fun k => decide (k = i) || decide (l[k]?.getD 0 < m)
def topGo (l : List Int) : Nat → List Int → Int × Bool
  | _, [] => (0, false)
  | i, m :: r => if topAt l i m then ((i : Int), true) else topGo l (i + 1) r
def firstL (k : Int) (l : List Int) : Int × Bool :=
  if aloneL k l = false ∨ l = [] then (0, false)
  else if k = 1 ∨ k = 2 ∧ l.length = 1 then (l[0]?.getD 0, true)
  else if k = 2 then (0, false)
  else topGo l 0 l
def prefersL (k : Int) (l : List Int) (x y : Int) : Bool :=
  if x < 0 ∨ y < 0 then false
  else if k = 1 then decide (0 ≤ placeL l x) && (decide (placeL l y < 0) || decide (placeL l x < placeL l y))
  else if k = 2 then decide (0 ≤ placeL l x) && decide (placeL l y < 0)
  else if k = 3 then decide (x < l.length) && decide (y < l.length) && decide (l[y.toNat]?.getD 0 < l[x.toNat]?.getD 0)
  else false
def isLeft (left : List Bool) (c : Int) : Bool := decide (0 ≤ c) && left[c.toNat]?.getD false
def keepL (k : Int) (l : List Int) (left : List Bool) : List Int :=
  if k = 1 ∨ k = 2 then l.filter (isLeft left)
  else if k = 3 then l.mapIdx fun i m => if left[i]?.getD false then m else 0
  else l
def turnedL (p : List Int) : Bool := decide (1 ≤ p.length ∧ p.length ≤ 10) && (List.range p.length).all fun i => decide ((i : Int) ∈ p)
/-- A permutation's image of a number. -/
def imL (p : List Int) (m : Int) : Int := p[m.toNat]?.getD 0
def renameL (k : Int) (l p : List Int) : (Int × List Int) × Int :=
  if turnedL p = false then ((0, []), 2)
  else if fineL k l p.length = false then ((0, []), 8)
  else if k = 1 then ((k, l.map (imL p)), 0)
  else if k = 2 then ((k, ((List.range p.length).map Int.ofNat).filter fun c => decide (placeL p c ∈ l)), 0)
  else ((k, (List.range p.length).map fun (c : Nat) => l[(placeL p (c : Int)).toNat]?.getD 0), 0)
def aheadL : List Int → List Int → Bool
  | [], [] => false
  | [], _ :: _ => true
  | _ :: _, [] => false
  | a :: r, b :: s => if a = b then aheadL r s else decide (a < b)
def lessL (k : Int) (l : List Int) (j : Int) (m : List Int) : Bool := decide (k < j) || (decide (k = j) && aheadL l m)
def sameL (k : Int) (l : List Int) (j : Int) (m : List Int) : Bool := decide (k = j ∧ l = m)
end Go.Proofs.YtncdaicaljpgfaaGreat
set_option linter.unusedVariables false
namespace Go.Proofs.YtncdaicaljpgfaaGreat

theorem drop_cons' {α : Type} {l : List α} {k : Nat} {x : α} (h : l[k]? = some x) : l.drop k = x :: l.drop (k + 1) := by
  obtain ⟨h1, rfl⟩ := List.getElem?_eq_some_iff.1 h
  exact List.drop_eq_getElem_cons h1
theorem mem_at {α : Type} {l : List α} {k : Nat} {x : α} (h : l[k]? = some x) : x ∈ l := List.mem_of_getElem? h
/-- The place of a number, counted from k on. -/
def placeGo (l : List Int) (x : Int) (k : Nat) : Int := if placeL (l.drop k) x < 0 then -1 else placeL (l.drop k) x + k
theorem place_ge : ∀ (l : List Int) (x : Int), -1 ≤ placeL l x
  | [], x => by simp [placeL]
  | a :: r, x => by
    rw [placeL]
    by_cases h : a = x
    · rw [if_pos h]; omega
    · rw [if_neg h]
      by_cases h2 : placeL r x < 0
      · rw [if_pos h2]; omega
      · rw [if_neg h2]; omega
theorem place_start (l : List Int) (x : Int) : placeL l x = placeGo l x 0 := by
  have := place_ge l x
  unfold placeGo
  rw [List.drop_zero]
  by_cases h : placeL l x < 0
  · rw [if_pos h]; omega
  · rw [if_neg h]; omega
theorem place_hit {l : List Int} {x a : Int} {k : Nat} (h : l[k]? = some a) (e : a = x) : placeGo l x k = k := by
  unfold placeGo
  rw [drop_cons' h, placeL, if_pos e, if_neg (by omega)]; omega
theorem place_miss {l : List Int} {x a : Int} {k : Nat} (h : l[k]? = some a) (e : a ≠ x) : placeGo l x k = placeGo l x (k + 1) := by
  unfold placeGo
  rw [drop_cons' h, placeL, if_neg e]
  by_cases h2 : placeL (l.drop (k + 1)) x < 0
  · rw [if_pos h2, if_pos h2, if_pos (by omega)]
  · rw [if_neg h2, if_neg h2, if_neg (by omega)]; omega
theorem place_end {l : List Int} {x : Int} {k : Nat} (h : ¬ k < l.length) : placeGo l x k = -1 := by
  unfold placeGo
  rw [List.drop_of_length_le (by omega), placeL, if_pos (by omega)]
theorem place_nonneg : ∀ (l : List Int) (x : Int), 0 ≤ placeL l x ↔ x ∈ l
  | [], x => by simp [placeL]
  | a :: r, x => by
    rw [placeL, List.mem_cons]
    by_cases h : a = x
    · rw [if_pos h]; simp [h]
    · rw [if_neg h]
      have ih := place_nonneg r x
      by_cases h2 : placeL r x < 0
      · rw [if_pos h2]
        constructor
        · intro h3; omega
        · rintro (h3 | h3)
          · exact absurd h3.symm h
          · have := ih.2 h3; omega
      · rw [if_neg h2]
        constructor
        · intro _; exact .inr (ih.1 (by omega))
        · intro _; omega
theorem place_get : ∀ (l : List Int) (x : Int), x ∈ l → l[(placeL l x).toNat]? = some x
  | [], x, h => by cases h
  | a :: r, x, h => by
    rw [placeL]
    by_cases e : a = x
    · rw [if_pos e]; simp [e]
    · rw [if_neg e]
      have hr : x ∈ r := by
        rcases List.mem_cons.1 h with h | h
        · exact absurd h.symm e
        · exact h
      have h0 := (place_nonneg r x).2 hr
      rw [if_neg (by omega), show (placeL r x + 1).toNat = (placeL r x).toNat + 1 by omega, List.getElem?_cons_succ]
      exact place_get r x hr
theorem place_lt (l : List Int) (x : Int) : placeL l x < l.length := by
  rcases Decidable.em (x ∈ l) with h | h
  · have := (List.getElem?_eq_some_iff.1 (place_get l x h)).1
    have := (place_nonneg l x).2 h
    omega
  · have := mt (place_nonneg l x).1 h; omega

/- Validity, read from the front. -/
theorem all_no {l : List Int} {p : Int → Bool} {x : Int} {k : Nat} (h : l[k]? = some x) (hp : p x = false) : l.all p = false := by
  cases hb : l.all p with
  | false => rfl
  | true => have := List.all_eq_true.1 hb x (mem_at h); rw [hp] at this; cases this
theorem inB_t {lo hi m : Int} (h : lo ≤ m) (h2 : m < hi) : inB lo hi m = true := decide_eq_true ⟨h, h2⟩
theorem inB_f {lo hi m : Int} (h : ¬ (lo ≤ m ∧ m < hi)) : inB lo hi m = false := decide_eq_false h
def Fine1 (l : List Int) (c : Int) (k : Nat) : Prop := (∀ m ∈ l.take k, 0 ≤ m ∧ m < c) ∧ (l.take k).Nodup
theorem fine1_zero (l : List Int) (c : Int) : Fine1 l c 0 := ⟨by simp, by simp⟩
theorem fine1_step {l : List Int} {c x : Int} {k : Nat} (h : Fine1 l c k) (hx : l[k]? = some x) (h1 : 0 ≤ x) (h2 : x < c) (hp : placeL (l.take k) x < 0) : Fine1 l c (k + 1) := by
  have hn : x ∉ l.take k := fun h => by have := (place_nonneg _ _).2 h; omega
  unfold Fine1
  rw [take_snoc hx]
  refine ⟨fun m hm => ?_, ?_⟩
  · rcases List.mem_append.1 hm with hm | hm
    · exact h.1 m hm
    · simp at hm; subst hm; exact ⟨h1, h2⟩
  · rw [List.nodup_append]
    refine ⟨h.2, by simp, fun a ha b hb e => ?_⟩
    simp at hb; subst hb; subst e; exact hn ha
theorem fine1_ok {l : List Int} {c : Int} {k : Nat} (h : Fine1 l c k) (hk : ¬ k < l.length) : fineL 1 l c = true := by
  unfold Fine1 at h
  rw [List.take_of_length_le (by omega)] at h
  unfold fineL
  rw [if_neg (by decide), if_pos rfl, Bool.and_eq_true]
  exact ⟨List.all_eq_true.2 fun m hm => inB_t (h.1 m hm).1 (h.1 m hm).2, decide_eq_true h.2⟩
theorem fine1_out {l : List Int} {c x : Int} {k : Nat} (hx : l[k]? = some x) (h : ¬ (0 ≤ x ∧ x < c)) : fineL 1 l c = false := by
  unfold fineL; rw [if_neg (by decide), if_pos rfl, all_no hx (inB_f h)]; rfl
theorem fine1_dup {l : List Int} {c x : Int} {k : Nat} (hx : l[k]? = some x) (h : 0 ≤ placeL (l.take k) x) : fineL 1 l c = false := by
  have hn := (place_nonneg _ _).1 h
  unfold fineL
  rw [if_neg (by decide), if_pos rfl, decide_eq_false, Bool.and_false]
  intro hd
  have h2 : (l.take (k + 1)).Nodup := hd.sublist (List.take_sublist _ _)
  rw [take_snoc hx, List.nodup_append] at h2
  exact h2.2.2 x hn x (by simp) rfl
def Fine2 (l : List Int) (c : Int) (k : Nat) : Prop := (∀ m ∈ l.take k, 0 ≤ m ∧ m < c) ∧ (l.take k).Pairwise (· < ·)
theorem fine2_zero (l : List Int) (c : Int) : Fine2 l c 0 := ⟨by simp, by simp⟩
/-- In a rising list the last element is the greatest. -/
theorem rise_last {l : List Int} {k : Nat} {y m : Int} (h : (l.take (k + 1)).Pairwise (· < ·)) (hy : l[k]? = some y) (hm : m ∈ l.take (k + 1)) : m ≤ y := by
  rw [take_snoc hy, List.pairwise_append] at h
  rw [take_snoc hy] at hm
  rcases List.mem_append.1 hm with hm | hm
  · exact Int.le_of_lt (h.2.2 m hm y (by simp))
  · simp at hm; omega
theorem fine2_step {l : List Int} {c x : Int} {k : Nat} (h : Fine2 l c k) (hx : l[k]? = some x) (h1 : 0 ≤ x) (h2 : x < c) (hr : ∀ m ∈ l.take k, m < x) : Fine2 l c (k + 1) := by
  unfold Fine2
  rw [take_snoc hx]
  refine ⟨fun m hm => ?_, ?_⟩
  · rcases List.mem_append.1 hm with hm | hm
    · exact h.1 m hm
    · simp at hm; subst hm; exact ⟨h1, h2⟩
  · rw [List.pairwise_append]
    exact ⟨h.2, by simp, fun a ha b hb => by simp at hb; subst hb; exact hr a ha⟩
theorem fine2_above {l : List Int} {c y x : Int} {k : Nat} (h : Fine2 l c (k + 1)) (hy : l[k]? = some y) (hx : y < x) : ∀ m ∈ l.take (k + 1), m < x := fun m hm => by
  have := rise_last h.2 hy hm; omega
theorem fine2_none {l : List Int} {x : Int} {k : Nat} (h : ∀ m ∈ l.take k, m < x) : placeL (l.take k) x < 0 := by
  rcases Int.lt_or_le (placeL (l.take k) x) 0 with h1 | h1
  · exact h1
  · have := h x ((place_nonneg _ _).1 h1); omega
theorem fine2_ok {l : List Int} {c : Int} {k : Nat} (h : Fine2 l c k) (hk : ¬ k < l.length) : fineL 2 l c = true := by
  unfold Fine2 at h
  rw [List.take_of_length_le (by omega)] at h
  unfold fineL
  rw [if_neg (by decide), if_neg (by decide), if_pos rfl, Bool.and_eq_true]
  exact ⟨List.all_eq_true.2 fun m hm => inB_t (h.1 m hm).1 (h.1 m hm).2, decide_eq_true h.2⟩
theorem fine2_out {l : List Int} {c x : Int} {k : Nat} (hx : l[k]? = some x) (h : ¬ (0 ≤ x ∧ x < c)) : fineL 2 l c = false := by
  unfold fineL; rw [if_neg (by decide), if_neg (by decide), if_pos rfl, all_no hx (inB_f h)]; rfl
theorem fine2_low {l : List Int} {c x y : Int} {k : Nat} (hy : l[k]? = some y) (hx : l[k + 1]? = some x) (h : x ≤ y) : fineL 2 l c = false := by
  unfold fineL
  rw [if_neg (by decide), if_neg (by decide), if_pos rfl, decide_eq_false, Bool.and_false]
  intro hd
  have h2 : (l.take (k + 1 + 1)).Pairwise (· < ·) := hd.sublist (List.take_sublist _ _)
  rw [take_snoc hx, take_snoc hy, List.pairwise_append] at h2
  have := h2.2.2 y (by simp) x (by simp)
  omega
def Fine3 (l : List Int) (k : Nat) : Prop := ∀ m ∈ l.take k, 0 ≤ m ∧ m < 11
theorem fine3_zero (l : List Int) : Fine3 l 0 := by simp [Fine3]
theorem fine3_step {l : List Int} {x : Int} {k : Nat} (h : Fine3 l k) (hx : l[k]? = some x) (h1 : 0 ≤ x) (h2 : x < 11) : Fine3 l (k + 1) := by
  unfold Fine3
  rw [take_snoc hx]
  intro m hm
  rcases List.mem_append.1 hm with hm | hm
  · exact h m hm
  · simp at hm; subst hm; exact ⟨h1, h2⟩
theorem fine3_ok {l : List Int} {c : Int} {k : Nat} (h : Fine3 l k) (hk : ¬ k < l.length) : fineL 3 l c = decide ((l.length : Int) = c) := by
  unfold Fine3 at h
  rw [List.take_of_length_le (by omega)] at h
  unfold fineL
  rw [if_pos rfl, show l.all (inB 0 11) = true from List.all_eq_true.2 fun m hm => inB_t (h m hm).1 (h m hm).2, Bool.true_and]
theorem fine3_out {l : List Int} {c x : Int} {k : Nat} (hx : l[k]? = some x) (h : ¬ (0 ≤ x ∧ x < 11)) : fineL 3 l c = false := by
  unfold fineL; rw [if_pos rfl, all_no hx (inB_f h)]; rfl
theorem fine_else {k : Int} {l : List Int} {c : Int} (h1 : k ≠ 1) (h2 : k ≠ 2) (h3 : k ≠ 3) : fineL k l c = false := by
  unfold fineL; rw [if_neg h3, if_neg h1, if_neg h2]

/- The favorite by scores. -/
def topTo (l : List Int) (i : Nat) (m : Int) (K : Nat) : Bool := decide (0 < m) && (List.range K).all fun k => decide (k = i) || decide (l[k]?.getD 0 < m)
theorem top_to (l : List Int) (i : Nat) (m : Int) : topAt l i m = topTo l i m l.length := rfl
theorem top_zero (l : List Int) (i : Nat) (m : Int) : topTo l i m 0 = decide (0 < m) := by simp [topTo]
theorem top_succ (l : List Int) (i : Nat) (m : Int) (K : Nat) : topTo l i m (K + 1) = (topTo l i m K && (decide (K = i) || decide (l[K]?.getD 0 < m))) := by
  unfold topTo; rw [List.range_succ, List.all_append]; simp [Bool.and_assoc]
theorem top_own {l : List Int} {i : Nat} {m : Int} {b : Bool} (h : topTo l i m i = b) : topTo l i m (i + 1) = b := by rw [top_succ, h]; simp
theorem top_other {l : List Int} {i K : Nat} {m y : Int} (h : topTo l i m K = true) (hy : l[K]? = some y) (hne : K ≠ i) : topTo l i m (K + 1) = decide (y < m) := by rw [top_succ, h, hy]; simp [hne]
theorem top_false {l : List Int} {i K : Nat} {m : Int} (h : topTo l i m K = false) : topTo l i m (K + 1) = false := by rw [top_succ, h]; rfl
theorem topGo_yes {l : List Int} {i : Nat} {m : Int} (hm : l[i]? = some m) (h : topTo l i m l.length = true) : topGo l i (l.drop i) = ((i : Int), true) := by
  rw [drop_cons' hm, topGo, top_to, h, if_pos rfl]
theorem topGo_no {l : List Int} {i : Nat} {m : Int} (hm : l[i]? = some m) (h : topTo l i m l.length = false) : topGo l i (l.drop i) = topGo l (i + 1) (l.drop (i + 1)) := by
  rw [drop_cons' hm, topGo, top_to, h, if_neg (by simp)]
theorem topGo_end {l : List Int} {i : Nat} (h : ¬ i < l.length) : topGo l i (l.drop i) = (0, false) := by
  rw [List.drop_of_length_le (by omega), topGo]
theorem alone_of {k : Int} {l : List Int} (h : checkL k l (amongL k l) = 0) : aloneL k l = true := by unfold aloneL; rw [h]; rfl
theorem alone_kind {k : Int} {l : List Int} (h : checkL k l (amongL k l) = 0) : k = 1 ∨ k = 2 ∨ k = 3 := by
  unfold checkL at h
  by_cases h0 : amongL k l < 1 ∨ 10 < amongL k l
  · rw [if_pos h0] at h; cases h
  · rw [if_neg h0] at h
    by_cases h1 : fineL k l (amongL k l) = false
    · rw [if_pos h1] at h; cases h
    · unfold fineL at h1
      by_cases h3 : k = 3
      · exact .inr (.inr h3)
      · by_cases h2 : k = 2
        · exact .inr (.inl h2)
        · by_cases h5 : k = 1
          · exact .inl h5
          · rw [if_neg h3, if_neg h5, if_neg h2] at h1; exact absurd rfl h1
theorem first_one {l : List Int} {x : Int} (ha : aloneL 1 l = true) (hx : l[0]? = some x) : firstL 1 l = (x, true) := by
  unfold firstL
  rw [if_neg (by rw [ha]; simp; rintro rfl; simp at hx), if_pos (.inl rfl), hx]; rfl
theorem first_mark {l : List Int} {x : Int} (ha : aloneL 2 l = true) (hx : l[0]? = some x) (h1 : l.length = 1) : firstL 2 l = (x, true) := by
  unfold firstL
  rw [if_neg (by rw [ha]; simp; rintro rfl; simp at hx), if_pos (.inr ⟨rfl, h1⟩), hx]; rfl
theorem first_marks {l : List Int} {x : Int} (ha : aloneL 2 l = true) (hx : l[0]? = some x) (h1 : l.length ≠ 1) : firstL 2 l = (0, false) := by
  unfold firstL
  rw [if_neg (by rw [ha]; simp; rintro rfl; simp at hx), if_neg (by simp [h1]), if_pos rfl]
theorem first_score {l : List Int} {x : Int} (ha : aloneL 3 l = true) (hx : l[0]? = some x) : firstL 3 l = topGo l 0 (l.drop 0) := by
  unfold firstL
  rw [if_neg (by rw [ha]; simp; rintro rfl; simp at hx), if_neg (by simp), if_neg (by simp), List.drop_zero]
end Go.Proofs.YtncdaicaljpgfaaGreat
set_option linter.unusedVariables false
namespace Go.Proofs.YtncdaicaljpgfaaGreat

/-- From i on neighbours are in order. -/
def AdjUp (l : List Int) (i : Nat) : Prop := ∀ (j : Nat) (x y : Int), i ≤ j → l[j]? = some x → l[j + 1]? = some y → x ≤ y
theorem adj_start (l : List Int) {i : Nat} (h : l.length ≤ i + 1) : AdjUp l i := fun j x y hj _ hy => by
  have := (List.getElem?_eq_some_iff.1 hy).1; omega
theorem adj_step {l : List Int} {i : Nat} {x y : Int} (h : AdjUp l (i + 1)) (hx : l[i]? = some x) (hy : l[i + 1]? = some y) (hxy : x ≤ y) : AdjUp l i := fun j a b hj ha hb => by
  by_cases he : j = i
  · subst he; rw [hx] at ha; rw [hy] at hb; cases ha; cases hb; exact hxy
  · exact h j a b (by omega) ha hb
theorem adj_pw : ∀ (l : List Int), AdjUp l 0 → l.Pairwise (· ≤ ·)
  | [], _ => List.Pairwise.nil
  | [a], _ => by simp
  | a :: b :: r, h => by
    have hr := adj_pw (b :: r) (fun j x y hj hx hy => h (j + 1) x y (by omega) (by simpa using hx) (by simpa using hy))
    refine List.Pairwise.cons (fun c hc => ?_) hr
    have hab : a ≤ b := h 0 a b (by omega) rfl rfl
    rcases List.mem_cons.1 hc with rfl | hc
    · exact hab
    · exact Int.le_trans hab ((List.pairwise_cons.1 hr).1 c hc)
theorem adj_no {l : List Int} {i : Nat} {x y : Int} (hx : l[i]? = some x) (hy : l[i + 1]? = some y) (hxy : y < x) : ¬ l.Pairwise (· ≤ ·) := fun h => by
  have h2 : (l.take (i + 1 + 1)).Pairwise (· ≤ ·) := h.sublist (List.take_sublist _ _)
  rw [take_snoc hy, take_snoc hx, List.pairwise_append] at h2
  have := h2.2.2 x (by simp) y (by simp)
  omega
theorem pw_lt_iff (l : List Int) : l.Pairwise (· < ·) ↔ (l.Pairwise (· ≤ ·) ∧ l.Nodup) := by
  constructor
  · intro h
    exact ⟨h.imp (fun h => Int.le_of_lt h), h.imp (fun h => by omega)⟩
  · rintro ⟨h1, h2⟩
    exact (h1.and h2).imp (fun h => by omega)
def RangeTo (l : List Int) (hi : Int) (n : Nat) : Prop := ∀ m ∈ l.take n, 0 ≤ m ∧ m < hi
theorem range_zero (l : List Int) (hi : Int) : RangeTo l hi 0 := by simp [RangeTo]
theorem range_step {l : List Int} {hi x : Int} {n : Nat} (h : RangeTo l hi n) (hx : l[n]? = some x) (h1 : 0 ≤ x) (h2 : x < hi) : RangeTo l hi (n + 1) := by
  unfold RangeTo
  rw [take_snoc hx]
  intro m hm
  rcases List.mem_append.1 hm with hm | hm
  · exact h m hm
  · simp at hm; subst hm; exact ⟨h1, h2⟩
theorem range_all {l : List Int} {hi : Int} {n : Nat} (h : RangeTo l hi n) (hn : ¬ n < l.length) : l.all (inB 0 hi) = true := by
  unfold RangeTo at h
  rw [List.take_of_length_le (by omega)] at h
  exact List.all_eq_true.2 fun m hm => inB_t (h m hm).1 (h m hm).2
theorem fine_out {k : Int} {l : List Int} {c x : Int} {n : Nat} (h3 : k ≠ 3) (hx : l[n]? = some x) (h : ¬ (0 ≤ x ∧ x < c)) : fineL k l c = false := by
  unfold fineL
  rw [if_neg h3, all_no hx (inB_f h)]
  simp
theorem fine_one {l : List Int} {c : Int} (h : l.all (inB 0 c) = true) : fineL 1 l c = decide l.Nodup := by
  unfold fineL; rw [if_neg (by decide), if_pos rfl, h, Bool.true_and]
theorem fine_two {l : List Int} {c : Int} (h : l.all (inB 0 c) = true) (h2 : l.Pairwise (· ≤ ·)) : fineL 2 l c = decide l.Nodup := by
  unfold fineL; rw [if_neg (by decide), if_neg (by decide), if_pos rfl, h, Bool.true_and]
  exact decide_eq_decide.2 (by rw [pw_lt_iff]; exact ⟨fun h => h.2, fun h => ⟨h2, h⟩⟩)
theorem fine_two_no {l : List Int} {c : Int} (h2 : ¬ l.Pairwise (· ≤ ·)) : fineL 2 l c = false := by
  unfold fineL; rw [if_neg (by decide), if_neg (by decide), if_pos rfl, decide_eq_false, Bool.and_false]
  exact fun h => h2 ((pw_lt_iff l).1 h).1
theorem fine_three {l : List Int} {c : Int} (h : l.all (inB 0 11) = true) : fineL 3 l c = decide ((l.length : Int) = c) := by
  unfold fineL; rw [if_pos rfl, h, Bool.true_and]
theorem nodup_step {l : List Int} {n : Nat} {x : Int} (h : (l.take n).Nodup) (hx : l[n]? = some x) (hn : x ∉ l.take n) : (l.take (n + 1)).Nodup := by
  rw [take_snoc hx, List.nodup_append]
  refine ⟨h, by simp, fun a ha b hb e => ?_⟩
  simp at hb; subst hb; subst e; exact hn ha
theorem nodup_dup {l : List Int} {n : Nat} {x : Int} (hx : l[n]? = some x) (hn : x ∈ l.take n) : decide l.Nodup = false := decide_eq_false fun hd => by
  have h2 : (l.take (n + 1)).Nodup := hd.sublist (List.take_sublist _ _)
  rw [take_snoc hx, List.nodup_append] at h2
  exact h2.2.2 x hn x (by simp) rfl
theorem nodup_end {l : List Int} {n : Nat} (h : (l.take n).Nodup) (hn : ¬ n < l.length) : decide l.Nodup = true := by
  rw [List.take_of_length_le (by omega)] at h; exact decide_eq_true h
end Go.Proofs.YtncdaicaljpgfaaGreat
set_option linter.unusedVariables false
namespace Go.Proofs.YtncdaicaljpgfaaGreat
/-- The decimal digits of a number below 100. -/
def dig (n : Nat) : List UInt8 := if n < 10 then [UInt8.ofNat (48 + n)] else [UInt8.ofNat (48 + n / 10), UInt8.ofNat (48 + n % 10)]
theorem dig_dec {n : Nat} (h : n < 100) : Lib.decDigits n = dig n := by
  rw [Lib.decDigits, dig]
  by_cases h1 : n < 10
  · rw [dif_pos h1, if_pos h1]
  · rw [dif_neg h1, if_neg h1, Lib.decDigits, dif_pos (by omega)]; rfl
theorem dig_len (n : Nat) : (dig n).length ≤ 2 := by
  rw [dig]
  by_cases h1 : n < 10
  · rw [if_pos h1]; simp
  · rw [if_neg h1]; simp
def nameL (k : Int) : List UInt8 := if k = 1 then [114, 97, 110, 107] else if k = 2 then [109, 97, 114, 107] else if k = 3 then [115, 99, 111, 114, 101] else []
theorem name_len (k : Int) : (nameL k).length ≤ 5 := by
  unfold nameL
  by_cases h1 : k = 1
  · rw [if_pos h1]; simp
  · rw [if_neg h1]
    by_cases h2 : k = 2
    · rw [if_pos h2]; simp
    · rw [if_neg h2]
      by_cases h3 : k = 3
      · rw [if_pos h3]; simp
      · rw [if_neg h3]; simp
def marksL (t : List Int) : List UInt8 := t.flatMap fun m => 32 :: dig m.toNat
theorem marks_snoc (t : List Int) (m : Int) : marksL (t ++ [m]) = marksL t ++ ([32] ++ dig m.toNat) := by simp [marksL]
theorem marks_len : ∀ t : List Int, (marksL t).length ≤ 3 * t.length
  | [] => by simp [marksL]
  | m :: r => by
    have h1 := marks_len r
    have h2 := dig_len m.toNat
    have e : marksL (m :: r) = (32 :: dig m.toNat) ++ marksL r := by simp [marksL]
    rw [e, List.length_append, List.length_cons, List.length_cons]; omega
def btextL (k : Int) (l : List Int) : List UInt8 × Int := if aloneL k l = false then ([], 8) else (nameL k ++ marksL l, 0)
theorem btext_bad {k : Int} {l : List Int} (h : aloneL k l = false) : btextL k l = ([], 8) := by unfold btextL; rw [if_pos h]
theorem btext_ok {k : Int} {l : List Int} (h : aloneL k l = true) : btextL k l = (nameL k ++ marksL l, 0) := by unfold btextL; rw [if_neg (by rw [h]; simp)]
/-- The number below 20 that is written so, or -1. -/
def numberGo (s : List UInt8) : Nat → Nat → Int
  | 0, _ => -1
  | d + 1, n => if dig n = s then (n : Int) else numberGo s d (n + 1)
def numberL (s : List UInt8) : Int := numberGo s 20 0
theorem number_hit {s : List UInt8} {n : Nat} (hn : n < 20) (h : dig n = s) : numberGo s (20 - n) n = (n : Int) := by
  obtain ⟨d, hd⟩ : ∃ d, 20 - n = d + 1 := ⟨19 - n, by omega⟩
  rw [hd, numberGo, if_pos h]
theorem number_miss {s : List UInt8} {n : Nat} (hn : n < 20) (h : dig n ≠ s) : numberGo s (20 - n) n = numberGo s (20 - (n + 1)) (n + 1) := by
  obtain ⟨d, hd⟩ : ∃ d, 20 - n = d + 1 := ⟨19 - n, by omega⟩
  rw [hd, numberGo, if_neg h, show 20 - (n + 1) = d by omega]
theorem number_end {s : List UInt8} {n : Nat} (hn : ¬ n < 20) : numberGo s (20 - n) n = -1 := by
  rw [show 20 - n = 0 by omega, numberGo]
theorem alone_marks {k : Int} {l : List Int} (h : aloneL k l = true) : ∀ m ∈ l, 0 ≤ m ∧ m < 11 := by
  have hc : checkL k l (amongL k l) = 0 := by unfold aloneL at h; exact of_decide_eq_true h
  have hk := alone_kind hc
  unfold checkL at hc
  by_cases h0 : amongL k l < 1 ∨ 10 < amongL k l
  · rw [if_pos h0] at hc; cases hc
  · rw [if_neg h0] at hc
    cases hf : fineL k l (amongL k l) with
    | false => rw [hf, if_pos rfl] at hc; cases hc
    | true =>
      unfold fineL at hf
      intro m hm
      rcases hk with rfl | rfl | rfl
      · rw [if_neg (by decide), if_pos rfl, Bool.and_eq_true] at hf
        have := List.all_eq_true.1 hf.1 m hm
        unfold inB amongL at this
        rw [if_neg (by decide)] at this
        have := of_decide_eq_true this
        omega
      · rw [if_neg (by decide), if_neg (by decide), if_pos rfl, Bool.and_eq_true] at hf
        have := List.all_eq_true.1 hf.1 m hm
        unfold inB amongL at this
        rw [if_neg (by decide)] at this
        have := of_decide_eq_true this
        omega
      · rw [if_pos rfl, Bool.and_eq_true] at hf
        have := List.all_eq_true.1 hf.1 m hm
        exact of_decide_eq_true this
theorem turned_no {p : List Int} {i : Nat} (hi : i < p.length) (h : placeL p (i : Int) < 0) : turnedL p = false := by
  unfold turnedL
  have : (List.range p.length).all (fun i => decide ((i : Int) ∈ p)) = false := by
    cases hb : (List.range p.length).all (fun i => decide ((i : Int) ∈ p)) with
    | false => rfl
    | true =>
      have := List.all_eq_true.1 hb i (by simpa using hi)
      have := (place_nonneg _ _).2 (of_decide_eq_true this)
      omega
  rw [this, Bool.and_false]
theorem turned_yes {p : List Int} (h : ∀ i : Nat, i < p.length → 0 ≤ placeL p (i : Int)) : turnedL p = decide (1 ≤ p.length ∧ p.length ≤ 10) := by
  unfold turnedL
  have : (List.range p.length).all (fun i => decide ((i : Int) ∈ p)) = true := List.all_eq_true.2 fun i hi => decide_eq_true ((place_nonneg _ _).1 (h i (by simpa using hi)))
  rw [this, Bool.and_true]
end Go.Proofs.YtncdaicaljpgfaaGreat
set_option linter.unusedVariables false
set_option linter.unusedSimpArgs false
namespace Go.Proofs.YtncdaicaljpgfaaGreat
theorem isLeft_zip (one two : List Bool) (x : Int) : isLeft (List.zipWith and one two) x = (isLeft one x && isLeft two x) := by
  unfold isLeft
  rw [List.getElem?_zipWith]
  cases one[x.toNat]? with
  | none => simp
  | some a =>
    cases two[x.toNat]? with
    | none => simp
    | some b => cases a <;> cases b <;> simp
theorem getD_zip (one two : List Bool) (i : Nat) : (List.zipWith and one two)[i]?.getD false = (one[i]?.getD false && two[i]?.getD false) := by
  rw [List.getElem?_zipWith]
  cases one[i]? with
  | none => simp
  | some a =>
    cases two[i]? with
    | none => simp
    | some b => simp
theorem keep_keep (k : Int) (l : List Int) (one two : List Bool) : keepL k (keepL k l one) two = keepL k l (List.zipWith and one two) := by
  unfold keepL
  by_cases h : k = 1 ∨ k = 2
  · rw [if_pos h, if_pos h, if_pos h, List.filter_filter]
    congr 1
    funext x
    rw [isLeft_zip, Bool.and_comm]
  · rw [if_neg h, if_neg h, if_neg h]
    by_cases h3 : k = 3
    · rw [if_pos h3, if_pos h3, if_pos h3]
      apply List.ext_getElem?
      intro i
      simp only [List.getElem?_mapIdx, Option.map_map]
      congr 1
      funext m
      simp only [Function.comp, getD_zip]
      cases one[i]?.getD false <;> cases two[i]?.getD false <;> rfl
    · rw [if_neg h3, if_neg h3, if_neg h3]
theorem check_zero {k : Int} {l : List Int} {c : Int} : checkL k l c = 0 ↔ (1 ≤ c ∧ c ≤ 10) ∧ fineL k l c = true := by
  unfold checkL
  by_cases h : c < 1 ∨ 10 < c
  · rw [if_pos h]; constructor
    · intro h; omega
    · intro h2; omega
  · rw [if_neg h]
    cases fineL k l c with
    | true => simp; omega
    | false => simp
theorem keep_right {k : Int} {l : List Int} {c : Int} {left : List Bool} (h : checkL k l c = 0) : checkL k (keepL k l left) c = 0 := by
  rw [check_zero] at h ⊢
  refine ⟨h.1, ?_⟩
  have hf := h.2
  unfold keepL
  by_cases h12 : k = 1 ∨ k = 2
  · rw [if_pos h12]
    have hsub : (l.filter (isLeft left)).Sublist l := List.filter_sublist
    rcases h12 with rfl | rfl
    · simp only [fineL, Bool.and_eq_true, List.all_eq_true, decide_eq_true_eq] at hf ⊢
      simp at hf ⊢
      exact ⟨fun m hm => .inr (hf.1 m hm), hf.2.sublist hsub⟩
    · simp only [fineL, Bool.and_eq_true, List.all_eq_true, decide_eq_true_eq] at hf ⊢
      simp at hf ⊢
      exact ⟨fun m hm => .inr (hf.1 m hm), hf.2.sublist hsub⟩
  · rw [if_neg h12]
    by_cases h3 : k = 3
    · subst h3
      rw [if_pos rfl]
      have e : ∀ m : List Int, fineL 3 m c = (m.all (inB 0 11) && decide ((m.length : Int) = c)) := fun m => rfl
      rw [e, Bool.and_eq_true, List.all_eq_true] at hf ⊢
      refine ⟨fun m hm => ?_, by rw [List.length_mapIdx]; exact hf.2⟩
      obtain ⟨i, hi, rfl⟩ := List.mem_mapIdx.1 hm
      split
      · exact hf.1 _ (List.getElem_mem hi)
      · rfl
    · rw [if_neg h3]; exact hf
theorem place_self (a : Int) (r : List Int) : placeL (a :: r) a = 0 := if_pos rfl
theorem place_skip {a x : Int} (r : List Int) (h : a ≠ x) : placeL (a :: r) x = if placeL r x < 0 then -1 else placeL r x + 1 := if_neg h
/-- Filtering keeps who is there, and in which order. -/
theorem place_filter {p : Int → Bool} {x y : Int} (hx : p x = true) (hy : p y = true) : ∀ l : List Int, (placeL (l.filter p) x < 0 ↔ placeL l x < 0) ∧ (placeL (l.filter p) y < 0 ↔ placeL l y < 0) ∧ (0 ≤ placeL l x → 0 ≤ placeL l y → (placeL (l.filter p) x < placeL (l.filter p) y ↔ placeL l x < placeL l y))
  | [] => by simp [placeL]
  | a :: r => by
    obtain ⟨i1, i2, i3⟩ := place_filter hx hy r
    have g1 := place_ge r x
    have g2 := place_ge r y
    have g3 := place_ge (r.filter p) x
    have g4 := place_ge (r.filter p) y
    cases ha : p a with
    | false =>
      have nx : a ≠ x := fun e => by rw [e, hx] at ha; cases ha
      have ny : a ≠ y := fun e => by rw [e, hy] at ha; cases ha
      rw [List.filter_cons, if_neg (by rw [ha]; decide), place_skip r nx, place_skip r ny]
      refine ⟨?_, ?_, ?_⟩
      · rw [i1]; split <;> omega
      · rw [i2]; split <;> omega
      · split
        · omega
        · split
          · omega
          · intro _ _; rw [i3 (by omega) (by omega)]; omega
    | true =>
      rw [List.filter_cons, if_pos ha]
      by_cases ex : a = x
      · subst ex
        rw [place_self, place_self]
        by_cases ey : a = y
        · subst ey; rw [place_self, place_self]; omega
        · rw [place_skip _ ey, place_skip _ ey]
          refine ⟨by omega, ?_, ?_⟩
          · split <;> split <;> omega
          · split <;> split <;> omega
      · by_cases ey : a = y
        · subst ey
          rw [place_self, place_self, place_skip _ ex, place_skip _ ex]
          refine ⟨?_, by omega, ?_⟩
          · split <;> split <;> omega
          · split <;> split <;> omega
        · rw [place_skip _ ex, place_skip _ ex, place_skip _ ey, place_skip _ ey]
          refine ⟨?_, ?_, ?_⟩
          · split <;> split <;> omega
          · split <;> split <;> omega
          · intro q1 q2
            have q3 : ¬ placeL r x < 0 := fun h => by rw [if_pos h] at q1; omega
            have q4 : ¬ placeL r y < 0 := fun h => by rw [if_pos h] at q2; omega
            rw [if_neg q3, if_neg q4, if_neg (fun h => q3 (i1.1 h)), if_neg (fun h => q4 (i2.1 h))]
            have := i3 (by omega) (by omega)
            omega
theorem prefers_irr (k : Int) (l : List Int) (x : Int) : prefersL k l x x = false := by
  unfold prefersL
  split
  · rfl
  · split
    · cases h : decide (0 ≤ placeL l x) with
      | false => rfl
      | true =>
        have := of_decide_eq_true h
        simp; omega
    · split
      · cases h : decide (0 ≤ placeL l x) with
        | false => rfl
        | true =>
          have := of_decide_eq_true h
          simp; omega
      · split
        · simp
        · rfl
theorem prefers_asym {k : Int} {l : List Int} {x y : Int} (h : prefersL k l x y = true) : prefersL k l y x = false := by
  unfold prefersL at h ⊢
  by_cases h0 : x < 0 ∨ y < 0
  · rw [if_pos h0] at h; cases h
  · rw [if_neg h0] at h
    rw [if_neg (by omega)]
    by_cases h1 : k = 1
    · rw [if_pos h1] at h ⊢
      simp at h ⊢
      omega
    · rw [if_neg h1] at h ⊢
      by_cases h2 : k = 2
      · rw [if_pos h2] at h ⊢
        simp at h ⊢
        omega
      · rw [if_neg h2] at h ⊢
        by_cases h3 : k = 3
        · rw [if_pos h3] at h ⊢
          simp at h ⊢
          omega
        · rw [if_neg h3] at h; cases h
theorem isLeft_nat {left : List Bool} {n : Nat} (h : left[n]? = some true) : isLeft left n = true := by simp [isLeft, h]
theorem prefers_keep {k : Int} {l : List Int} {left : List Bool} {n m : Nat} (hx : left[n]? = some true) (hy : left[m]? = some true) : prefersL k (keepL k l left) n m = prefersL k l n m := by
  unfold prefersL
  have h0 : ¬ ((n : Int) < 0 ∨ (m : Int) < 0) := by omega
  rw [if_neg h0, if_neg h0]
  by_cases h1 : k = 1
  · rw [if_pos h1, if_pos h1]
    have e : keepL k l left = l.filter (isLeft left) := if_pos (.inl h1)
    rw [e]
    obtain ⟨i1, i2, i3⟩ := place_filter (isLeft_nat hx) (isLeft_nat hy) l
    rw [Bool.eq_iff_iff]
    simp
    constructor
    · rintro ⟨a, b⟩
      omega
    · rintro ⟨a, b⟩
      omega
  · rw [if_neg h1, if_neg h1]
    by_cases h2 : k = 2
    · rw [if_pos h2, if_pos h2]
      have e : keepL k l left = l.filter (isLeft left) := if_pos (.inr h2)
      rw [e]
      obtain ⟨i1, i2, i3⟩ := place_filter (isLeft_nat hx) (isLeft_nat hy) l
      rw [Bool.eq_iff_iff]
      simp
      omega
    · rw [if_neg h2, if_neg h2]
      by_cases h3 : k = 3
      · rw [if_pos h3, if_pos h3]
        have e : keepL k l left = l.mapIdx fun i m => if left[i]?.getD false then m else 0 := by unfold keepL; rw [if_neg (by omega), if_pos h3]
        rw [e]
        simp [List.getElem?_mapIdx, hx, hy]
      · rw [if_neg h3, if_neg h3]
end Go.Proofs.YtncdaicaljpgfaaGreat
set_option linter.unusedVariables false
set_option linter.unusedSimpArgs false
namespace Go.Proofs.YtncdaicaljpgfaaGreat
theorem pw_at {m : List Int} (hs : m.Pairwise (· ≤ ·)) {i j : Nat} {x y : Int} (hij : i ≤ j) (hx : m[i]? = some x) (hy : m[j]? = some y) : x ≤ y := by
  obtain ⟨h1, rfl⟩ := List.getElem?_eq_some_iff.1 hx
  obtain ⟨h2, rfl⟩ := List.getElem?_eq_some_iff.1 hy
  by_cases e : i = j
  · subst e; exact Int.le_refl _
  · exact List.pairwise_iff_getElem.1 hs i j h1 h2 (by omega)
/-- Sorted numbers among which all up to their count are: each is at least its place. -/
theorem up_place {m : List Int} (hs : m.Pairwise (· ≤ ·)) (ha : ∀ i : Nat, i < m.length → (i : Int) ∈ m) : ∀ (d v : Nat) (x : Int), v + d = m.length → m[v]? = some x → (v : Int) ≤ x
  | 0, v, x, h, hx => by
    have := (List.getElem?_eq_some_iff.1 hx).1
    omega
  | d + 1, v, x, h, hx => by
    obtain ⟨i, hi⟩ := List.mem_iff_getElem?.1 (ha v (by omega))
    by_cases hiv : i ≤ v
    · exact pw_at hs hiv hi hx
    · have h2 := (List.getElem?_eq_some_iff.1 hi).1
      have key : ∀ (e w : Nat) (z : Int), w + e = m.length → v < w → m[w]? = some z → (w : Int) ≤ z := fun e w z h3 h4 h5 => by
        have : e ≤ d := by omega
        exact up_place hs ha e w z h3 h5
      have := key (m.length - i) i v (by omega) (by omega) hi
      omega
termination_by d => d
theorem turned_at {m : List Int} {j : Nat} {x : Int} (hs : m.Pairwise (· ≤ ·)) (ha : ∀ i : Nat, i < m.length → (i : Int) ∈ m) (hI : ∀ i : Nat, i < j → m[i]? = some (i : Int)) (hx : m[j]? = some x) : x = (j : Int) := by
  have hj := (List.getElem?_eq_some_iff.1 hx).1
  have h1 := up_place hs ha (m.length - j) j x (by omega) hx
  obtain ⟨i, hi⟩ := List.mem_iff_getElem?.1 (ha j hj)
  by_cases hij : i < j
  · have := hI i hij
    rw [hi] at this
    have := Option.some.inj this
    omega
  · have := pw_at hs (show j ≤ i by omega) hx hi
    omega
theorem turned_bad {p m : List Int} {j : Nat} {x : Int} (hp : m.Perm p) (hs : m.Pairwise (· ≤ ·)) (hI : ∀ i : Nat, i < j → m[i]? = some (i : Int)) (hx : m[j]? = some x) (hne : x ≠ (j : Int)) : turnedL p = false := by
  cases ht : turnedL p with
  | false => rfl
  | true =>
    exfalso
    unfold turnedL at ht
    rw [Bool.and_eq_true, List.all_eq_true] at ht
    refine hne (turned_at hs (fun i hi => ?_) hI hx)
    have := ht.2 i (by rw [List.mem_range, ← hp.length_eq]; exact hi)
    exact hp.mem_iff.2 (of_decide_eq_true this)
theorem turned_good {p m : List Int} (hp : m.Perm p) (h1 : 1 ≤ p.length ∧ p.length ≤ 10) (hI : ∀ i : Nat, i < p.length → m[i]? = some (i : Int)) : turnedL p = true := by
  unfold turnedL
  rw [Bool.and_eq_true, List.all_eq_true]
  refine ⟨decide_eq_true h1, fun i hi => decide_eq_true ?_⟩
  exact hp.mem_iff.1 (List.mem_of_getElem? (hI i (List.mem_range.1 hi)))
end Go.Proofs.YtncdaicaljpgfaaGreat
set_option linter.unusedVariables false
set_option linter.unusedSimpArgs false
namespace Go.Proofs.YtncdaicaljpgfaaGreat
theorem sorted_of (p : List Int) : ∃ m : List Int, m.Perm p ∧ m.Pairwise (· ≤ ·) := by
  refine ⟨p.mergeSort (fun a b => decide (a ≤ b)), List.mergeSort_perm p _, ?_⟩
  have := List.pairwise_mergeSort (le := fun (a b : Int) => decide (a ≤ b)) (fun a b c h1 h2 => by simp at *; omega) (fun a b => by simp; omega) p
  exact this.imp (fun h => of_decide_eq_true h)
/-- A permutation's numbers are in order 0, 1, .. -/
theorem turned_all {p m : List Int} (ht : turnedL p = true) (hp : m.Perm p) (hs : m.Pairwise (· ≤ ·)) : ∀ j : Nat, j < p.length → m[j]? = some (j : Int) := by
  unfold turnedL at ht
  rw [Bool.and_eq_true, List.all_eq_true] at ht
  have ha : ∀ i : Nat, i < m.length → (i : Int) ∈ m := fun i hi => hp.mem_iff.2 (of_decide_eq_true (ht.2 i (by rw [List.mem_range, ← hp.length_eq]; exact hi)))
  intro j
  induction j using Nat.strongRecOn with
  | ind j ih =>
    intro hj
    obtain ⟨x, hx, _⟩ := get_of (show j < m.length by rw [hp.length_eq]; exact hj)
    rw [hx, turned_at hs ha (fun i hi => ih i hi (by omega)) hx]
theorem turned_nodup {p : List Int} (ht : turnedL p = true) : p.Nodup := by
  obtain ⟨m, hp, hs⟩ := sorted_of p
  refine hp.nodup_iff.1 ?_
  rw [List.nodup_iff_pairwise_ne, List.pairwise_iff_getElem]
  intro i j hi hj hij e
  have h1 := turned_all ht hp hs i (by rw [← hp.length_eq]; exact hi)
  have h2 := turned_all ht hp hs j (by rw [← hp.length_eq]; exact hj)
  rw [List.getElem?_eq_getElem hi] at h1
  rw [List.getElem?_eq_getElem hj] at h2
  have e1 := Option.some.inj h1
  have e2 := Option.some.inj h2
  omega
theorem turned_range {p : List Int} (ht : turnedL p = true) {x : Int} (hx : x ∈ p) : 0 ≤ x ∧ x < p.length := by
  obtain ⟨m, hp, hs⟩ := sorted_of p
  obtain ⟨j, hj⟩ := List.mem_iff_getElem?.1 (hp.mem_iff.2 hx)
  have hl := (List.getElem?_eq_some_iff.1 hj).1
  rw [hp.length_eq] at hl
  rw [turned_all ht hp hs j hl] at hj
  have := Option.some.inj hj
  omega
theorem turned_len {p : List Int} (ht : turnedL p = true) : 1 ≤ p.length ∧ p.length ≤ 10 := by
  unfold turnedL at ht
  rw [Bool.and_eq_true] at ht
  exact of_decide_eq_true ht.1
/-- Sorted lists with the same members, none twice, are the same. -/
theorem sorted_unique : ∀ {l m : List Int}, l.Pairwise (· < ·) → m.Pairwise (· < ·) → (∀ x, x ∈ l ↔ x ∈ m) → l = m
  | [], [], _, _, _ => rfl
  | [], b :: m, _, _, h => by have := (h b).2 (by simp); simp at this
  | a :: l, [], _, _, h => by have := (h a).1 (by simp); simp at this
  | a :: l, b :: m, h1, h2, h => by
    have g1 := List.pairwise_cons.1 h1
    have g2 := List.pairwise_cons.1 h2
    have e : a = b := by
      have k1 := (h a).1 (by simp)
      have k2 := (h b).2 (by simp)
      rcases List.mem_cons.1 k1 with k1 | k1
      · exact k1
      · rcases List.mem_cons.1 k2 with k2 | k2
        · exact k2.symm
        · have := g1.1 b k2
          have := g2.1 a k1
          omega
    subst e
    congr 1
    refine sorted_unique g1.2 g2.2 fun x => ?_
    constructor
    · intro hx
      have := (h x).1 (by simp [hx])
      rcases List.mem_cons.1 this with k | k
      · have := g1.1 x hx; omega
      · exact k
    · intro hx
      have := (h x).2 (by simp [hx])
      rcases List.mem_cons.1 this with k | k
      · have := g2.1 x hx; omega
      · exact k
theorem nodup_at {p : List Int} (hd : p.Nodup) {i j : Nat} {x : Int} (hi : p[i]? = some x) (hj : p[j]? = some x) : i = j := by
  obtain ⟨h1, e1⟩ := List.getElem?_eq_some_iff.1 hi
  obtain ⟨h2, e2⟩ := List.getElem?_eq_some_iff.1 hj
  rw [List.nodup_iff_pairwise_ne, List.pairwise_iff_getElem] at hd
  rcases Nat.lt_trichotomy i j with h | h | h
  · exact absurd (e1.trans e2.symm) (hd i j h1 h2 h)
  · exact h
  · exact absurd (e2.trans e1.symm) (hd j i h2 h1 h)
theorem place_nodup {p : List Int} (hd : p.Nodup) {i : Nat} {x : Int} (hi : p[i]? = some x) : placeL p x = (i : Int) := by
  have hm := List.mem_of_getElem? hi
  have h0 := (place_nonneg p x).2 hm
  have := nodup_at hd (place_get p x hm) hi
  omega
theorem up_len : ∀ {l : List Int} {lo hi : Int}, l.Pairwise (· < ·) → (∀ x ∈ l, lo ≤ x ∧ x < hi) → l = [] ∨ (l.length : Int) ≤ hi - lo
  | [], _, _, _, _ => .inl rfl
  | a :: l, lo, hi, h, hb => by
    have g := List.pairwise_cons.1 h
    have ha := hb a (by simp)
    rcases up_len (lo := a + 1) (hi := hi) g.2 (fun x hx => ⟨by have := g.1 x hx; omega, (hb x (by simp [hx])).2⟩) with e | e
    · subst e; right; simp; omega
    · right; simp; omega
theorem fine_up {l : List Int} {c : Int} (h : fineL 2 l c = true) : l.Pairwise (· < ·) ∧ ∀ x ∈ l, 0 ≤ x ∧ x < c := by
  have e : fineL 2 l c = (l.all (inB 0 c) && decide (l.Pairwise (· < ·))) := rfl
  rw [e, Bool.and_eq_true, List.all_eq_true] at h
  exact ⟨of_decide_eq_true h.2, fun x hx => of_decide_eq_true (h.1 x hx)⟩
theorem turned_mem {p : List Int} (ht : turnedL p = true) {i : Nat} (hi : i < p.length) : (i : Int) ∈ p := by
  unfold turnedL at ht
  rw [Bool.and_eq_true, List.all_eq_true] at ht
  exact of_decide_eq_true (ht.2 i (List.mem_range.2 hi))
theorem rename_sorted {l p q : List Int} (ht : turnedL p = true) (hf : fineL 2 l p.length = true) (hq : q.Perm (l.map (imL p))) (hs : q.Pairwise (· ≤ ·)) : q = ((List.range p.length).map Int.ofNat).filter fun c => decide (placeL p c ∈ l) := by
  obtain ⟨hu, hr⟩ := fine_up hf
  have hd := turned_nodup ht
  have im : ∀ x ∈ l, ∃ i : Nat, x = i ∧ p[i]? = some (imL p x) := fun x hx => by
    have := hr x hx
    obtain ⟨i, rfl⟩ : ∃ i : Nat, x = i := ⟨x.toNat, by omega⟩
    obtain ⟨y, hy, _⟩ := get_of (show i < p.length by omega)
    exact ⟨i, rfl, by rw [hy]; simp [imL, hy]⟩
  have hqd : q.Nodup := by
    refine hq.nodup_iff.2 ?_
    rw [List.nodup_iff_pairwise_ne, List.pairwise_map]
    refine (hu.imp_of_mem ?_)
    intro a b ha hb hab e
    obtain ⟨i, rfl, hi⟩ := im a ha
    obtain ⟨j, rfl, hj⟩ := im b hb
    rw [← e] at hj
    have := nodup_at hd hi hj
    omega
  refine sorted_unique ((pw_lt_iff q).2 ⟨hs, hqd⟩) (List.Pairwise.filter _ ?_) fun x => ?_
  · rw [List.pairwise_map]
    exact List.pairwise_lt_range.imp fun h => Int.ofNat_lt.2 h
  · rw [hq.mem_iff, List.mem_map, List.mem_filter, List.mem_map]
    constructor
    · rintro ⟨a, ha, rfl⟩
      obtain ⟨i, rfl, hi⟩ := im a ha
      have hx := turned_range ht (List.mem_of_getElem? hi)
      refine ⟨⟨(imL p i).toNat, List.mem_range.2 (by omega), by show (((imL p i).toNat : Nat) : Int) = _; omega⟩, decide_eq_true ?_⟩
      rw [place_nodup hd hi]; exact ha
    · rintro ⟨⟨i, hi, rfl⟩, h⟩
      have h := of_decide_eq_true h
      have hm := turned_mem ht (List.mem_range.1 hi)
      refine ⟨_, h, ?_⟩
      have := place_get p (i : Int) hm
      unfold imL
      show p[(placeL p (i : Int)).toNat]?.getD 0 = _
      rw [this]; rfl
end Go.Proofs.YtncdaicaljpgfaaGreat
set_option linter.unusedVariables false
set_option linter.unusedSimpArgs false
namespace Go.Proofs.YtncdaicaljpgfaaGreat
theorem im_at' {p : List Int} {n : Nat} {y : Int} (h : p[n]? = some y) : imL p n = y := by simp [imL, h]
/-- The permutation that leads back. -/
def backL (p : List Int) : List Int := (List.range p.length).map fun (c : Nat) => placeL p (c : Int)
theorem back_len (p : List Int) : (backL p).length = p.length := by simp [backL]
theorem back_at {p : List Int} {c : Nat} (hc : c < p.length) : (backL p)[c]? = some (placeL p (c : Int)) := by simp [backL, hc]
theorem back_turned {p : List Int} (ht : turnedL p = true) : turnedL (backL p) = true := by
  have hl := turned_len ht
  unfold turnedL
  rw [back_len, Bool.and_eq_true, List.all_eq_true]
  refine ⟨decide_eq_true hl, fun i hi => decide_eq_true ?_⟩
  obtain ⟨y, hy, hm⟩ := get_of (List.mem_range.1 hi)
  have hr := turned_range ht hm
  obtain ⟨m, rfl⟩ : ∃ m : Nat, y = m := ⟨y.toNat, by omega⟩
  have := back_at (show m < p.length by omega)
  rw [place_nodup (turned_nodup ht) hy] at this
  exact List.mem_of_getElem? this
theorem im_back {p : List Int} (ht : turnedL p = true) {m : Int} (h0 : 0 ≤ m) (h1 : m < p.length) : imL (backL p) (imL p m) = m := by
  obtain ⟨i, rfl⟩ : ∃ i : Nat, m = i := ⟨m.toNat, by omega⟩
  obtain ⟨y, hy, hm⟩ := get_of (show i < p.length by omega)
  have hr := turned_range ht hm
  obtain ⟨c, rfl⟩ : ∃ c : Nat, y = c := ⟨y.toNat, by omega⟩
  have e : imL p (i : Int) = c := by simp [imL, hy]
  rw [e]
  have := back_at (show c < p.length by omega)
  rw [place_nodup (turned_nodup ht) hy] at this
  simp [imL, this]
theorem im_range {p : List Int} (ht : turnedL p = true) {m : Int} (h0 : 0 ≤ m) (h1 : m < p.length) : 0 ≤ imL p m ∧ imL p m < p.length := by
  obtain ⟨i, rfl⟩ : ∃ i : Nat, m = i := ⟨m.toNat, by omega⟩
  obtain ⟨y, hy, hm⟩ := get_of (show i < p.length by omega)
  have hr := turned_range ht hm
  have e : imL p (i : Int) = y := by simp [imL, hy]
  rw [e]; exact hr
theorem im_inj {p : List Int} (ht : turnedL p = true) {a b : Int} (ha : 0 ≤ a ∧ a < p.length) (hb : 0 ≤ b ∧ b < p.length) (e : imL p a = imL p b) : a = b := by
  rw [← im_back ht ha.1 ha.2, e, im_back ht hb.1 hb.2]
theorem rename_res1 {l p : List Int} (ht : turnedL p = true) (hf : fineL 1 l p.length = true) : (renameL 1 l p).1.2 = l.map (imL p) := by
  unfold renameL; rw [if_neg (by rw [ht]; simp), if_neg (by rw [hf]; simp), if_pos rfl]
theorem rename_res2 {l p : List Int} (ht : turnedL p = true) (hf : fineL 2 l p.length = true) : (renameL 2 l p).1.2 = ((List.range p.length).map Int.ofNat).filter fun c => decide (placeL p c ∈ l) := by
  unfold renameL; rw [if_neg (by rw [ht]; simp), if_neg (by rw [hf]; simp), if_neg (by decide), if_pos rfl]
theorem rename_res3 {l p : List Int} (ht : turnedL p = true) (hf : fineL 3 l p.length = true) : (renameL 3 l p).1.2 = (List.range p.length).map fun (c : Nat) => l[(placeL p (c : Int)).toNat]?.getD 0 := by
  unfold renameL; rw [if_neg (by rw [ht]; simp), if_neg (by rw [hf]; simp), if_neg (by decide), if_neg (by decide)]
theorem fine1_iff {l : List Int} {c : Int} : fineL 1 l c = true ↔ (∀ x ∈ l, 0 ≤ x ∧ x < c) ∧ l.Nodup := by
  have e : fineL 1 l c = (l.all (inB 0 c) && decide l.Nodup) := rfl
  rw [e, Bool.and_eq_true, List.all_eq_true]
  exact ⟨fun h => ⟨fun x hx => of_decide_eq_true (h.1 x hx), of_decide_eq_true h.2⟩, fun h => ⟨fun x hx => decide_eq_true (h.1 x hx), decide_eq_true h.2⟩⟩
theorem fine2_iff {l : List Int} {c : Int} : fineL 2 l c = true ↔ (∀ x ∈ l, 0 ≤ x ∧ x < c) ∧ l.Pairwise (· < ·) := by
  have e : fineL 2 l c = (l.all (inB 0 c) && decide (l.Pairwise (· < ·))) := rfl
  rw [e, Bool.and_eq_true, List.all_eq_true]
  exact ⟨fun h => ⟨fun x hx => of_decide_eq_true (h.1 x hx), of_decide_eq_true h.2⟩, fun h => ⟨fun x hx => decide_eq_true (h.1 x hx), decide_eq_true h.2⟩⟩
theorem fine3_iff {l : List Int} {c : Int} : fineL 3 l c = true ↔ (∀ x ∈ l, 0 ≤ x ∧ x < 11) ∧ (l.length : Int) = c := by
  have e : fineL 3 l c = (l.all (inB 0 11) && decide ((l.length : Int) = c)) := rfl
  rw [e, Bool.and_eq_true, List.all_eq_true]
  exact ⟨fun h => ⟨fun x hx => of_decide_eq_true (h.1 x hx), of_decide_eq_true h.2⟩, fun h => ⟨fun x hx => decide_eq_true (h.1 x hx), decide_eq_true h.2⟩⟩
/-- A renamed ballot is valid. -/
theorem rename_fine {k : Int} {l p : List Int} (ht : turnedL p = true) (hf : fineL k l p.length = true) : fineL k (renameL k l p).1.2 p.length = true := by
  by_cases h1 : k = 1
  · subst h1
    rw [rename_res1 ht hf]
    obtain ⟨hr, hd⟩ := fine1_iff.1 hf
    refine fine1_iff.2 ⟨fun x hx => ?_, ?_⟩
    · obtain ⟨m, hm, rfl⟩ := List.mem_map.1 hx
      exact im_range ht (hr m hm).1 (hr m hm).2
    · rw [List.nodup_iff_pairwise_ne] at hd ⊢
      rw [List.pairwise_map]
      exact hd.imp_of_mem fun ha hb hab e => hab (im_inj ht (hr _ ha) (hr _ hb) e)
  · by_cases h2 : k = 2
    · subst h2
      rw [rename_res2 ht hf]
      refine fine2_iff.2 ⟨fun x hx => ?_, List.Pairwise.filter _ ?_⟩
      · obtain ⟨hx, _⟩ := List.mem_filter.1 hx
        obtain ⟨i, hi, rfl⟩ := List.mem_map.1 hx
        have := List.mem_range.1 hi
        exact ⟨Int.natCast_nonneg i, Int.ofNat_lt.2 this⟩
      · rw [List.pairwise_map]
        exact List.pairwise_lt_range.imp fun h => Int.ofNat_lt.2 h
    · have h3 : k = 3 := Decidable.byContradiction fun h => by rw [fine_else h1 h2 h] at hf; cases hf
      subst h3
      rw [rename_res3 ht hf]
      obtain ⟨hr, hl⟩ := fine3_iff.1 hf
      refine fine3_iff.2 ⟨fun x hx => ?_, by simp⟩
      obtain ⟨c, hc, rfl⟩ := List.mem_map.1 hx
      have hm := turned_mem ht (List.mem_range.1 hc)
      have h0 := (place_nonneg p (c : Int)).2 hm
      have hlt := place_lt p (c : Int)
      obtain ⟨y, hy, hym⟩ := get_of (show (placeL p (c : Int)).toNat < l.length by omega)
      rw [hy]; exact hr y hym
theorem place_back {p : List Int} (ht : turnedL p = true) {i m : Nat} (hi : p[i]? = some (m : Int)) : placeL (backL p) (i : Int) = m := by
  have hm := turned_range ht (List.mem_of_getElem? hi)
  have := back_at (show m < p.length by omega)
  rw [place_nodup (turned_nodup ht) hi] at this
  exact place_nodup (turned_nodup (back_turned ht)) this
/-- Renamed and renamed back: the ballot. -/
theorem rename_back {k : Int} {l p : List Int} (ht : turnedL p = true) (hf : fineL k l p.length = true) : (renameL k (renameL k l p).1.2 (backL p)).1.2 = l := by
  have hb := back_turned ht
  have hf2 : fineL k (renameL k l p).1.2 (backL p).length = true := by rw [back_len]; exact rename_fine ht hf
  by_cases h1 : k = 1
  · subst h1
    rw [rename_res1 hb hf2, rename_res1 ht hf, List.map_map]
    obtain ⟨hr, _⟩ := fine1_iff.1 hf
    conv => rhs; rw [← List.map_id l]
    exact List.map_congr_left fun m hm => im_back ht (hr m hm).1 (hr m hm).2
  · by_cases h2 : k = 2
    · subst h2
      obtain ⟨hr, hs⟩ := fine2_iff.1 hf
      refine sorted_unique (fine2_iff.1 (rename_fine hb hf2)).2 hs fun x => ?_
      rw [rename_res2 hb hf2, rename_res2 ht hf, List.mem_filter, List.mem_map, back_len]
      have key : ∀ i : Nat, i < p.length → (placeL (backL p) (i : Int) ∈ ((List.range p.length).map Int.ofNat).filter (fun c => decide (placeL p c ∈ l)) ↔ (i : Int) ∈ l) := fun i hi => by
        obtain ⟨y, hy, hm⟩ := get_of hi
        have hyr := turned_range ht hm
        obtain ⟨m, rfl⟩ : ∃ m : Nat, y = m := ⟨y.toNat, by omega⟩
        rw [place_back ht hy, List.mem_filter, place_nodup (turned_nodup ht) hy, List.mem_map]
        constructor
        · exact fun h => of_decide_eq_true h.2
        · exact fun h => ⟨⟨m, List.mem_range.2 (by omega), rfl⟩, decide_eq_true h⟩
      constructor
      · rintro ⟨⟨i, hi, rfl⟩, h⟩
        exact (key i (List.mem_range.1 hi)).1 (of_decide_eq_true h)
      · intro hx
        have hxr := hr x hx
        obtain ⟨i, rfl⟩ : ∃ i : Nat, x = i := ⟨x.toNat, by omega⟩
        exact ⟨⟨i, List.mem_range.2 (by omega), rfl⟩, decide_eq_true ((key i (by omega)).2 hx)⟩
    · have h3 : k = 3 := Decidable.byContradiction fun h => by rw [fine_else h1 h2 h] at hf; cases hf
      subst h3
      obtain ⟨hr, hl⟩ := fine3_iff.1 hf
      rw [rename_res3 hb hf2, rename_res3 ht hf, back_len]
      apply List.ext_getElem?
      intro i
      by_cases hi : i < p.length
      · obtain ⟨y, hy, hm⟩ := get_of hi
        have hyr := turned_range ht hm
        obtain ⟨m, rfl⟩ : ∃ m : Nat, y = m := ⟨y.toNat, by omega⟩
        obtain ⟨z, hz, _⟩ := get_of (show i < l.length by omega)
        have e1 := place_back ht hy
        have e2 := place_nodup (turned_nodup ht) hy
        have hmp : m < p.length := by omega
        simp [hi, e1, hmp, e2, hz]
      · rw [List.getElem?_eq_none (by simp; omega), List.getElem?_eq_none (by omega)]
theorem place_map {f : Int → Int} {x : Int} : ∀ {l : List Int}, (∀ a ∈ l, f a = f x → a = x) → placeL (l.map f) (f x) = placeL l x
  | [], _ => rfl
  | a :: l, h => by
    have ih := place_map (l := l) (fun b hb => h b (by simp [hb]))
    rw [List.map_cons]
    by_cases e : a = x
    · subst e; rw [place_self, place_self]
    · rw [place_skip _ e, place_skip _ (fun q => e (h a (by simp) q)), ih]
theorem rename_mem2 {l p : List Int} (ht : turnedL p = true) (hf : fineL 2 l p.length = true) {x : Int} (h0 : 0 ≤ x) (h1 : x < p.length) : imL p x ∈ (renameL 2 l p).1.2 ↔ x ∈ l := by
  obtain ⟨i, rfl⟩ : ∃ i : Nat, x = i := ⟨x.toNat, by omega⟩
  obtain ⟨y, hy, hm⟩ := get_of (show i < p.length by omega)
  have hyr := turned_range ht hm
  obtain ⟨m, rfl⟩ : ∃ m : Nat, y = m := ⟨y.toNat, by omega⟩
  rw [im_at' hy, rename_res2 ht hf, List.mem_filter, place_nodup (turned_nodup ht) hy, List.mem_map]
  constructor
  · exact fun h => of_decide_eq_true h.2
  · exact fun h => ⟨⟨m, List.mem_range.2 (by omega), rfl⟩, decide_eq_true h⟩
theorem rename_at3 {l p : List Int} (ht : turnedL p = true) (hf : fineL 3 l p.length = true) {i m : Nat} (hi : p[i]? = some (m : Int)) : (renameL 3 l p).1.2[m]?.getD 0 = l[i]?.getD 0 := by
  have hm := turned_range ht (List.mem_of_getElem? hi)
  have hmp : m < p.length := by omega
  rw [rename_res3 ht hf]
  simp [hmp, place_nodup (turned_nodup ht) hi]
/-- Preferences follow the names. -/
theorem rename_prefers {k : Int} {l p : List Int} (ht : turnedL p = true) (hf : fineL k l p.length = true) {x y : Int} (hx : 0 ≤ x ∧ x < p.length) (hy : 0 ≤ y ∧ y < p.length) : prefersL k l x y = prefersL k (renameL k l p).1.2 (imL p x) (imL p y) := by
  have gx := im_range ht hx.1 hx.2
  have gy := im_range ht hy.1 hy.2
  unfold prefersL
  have n1 : ¬ (x < 0 ∨ y < 0) := by omega
  have n2 : ¬ (imL p x < 0 ∨ imL p y < 0) := by omega
  rw [if_neg n1, if_neg n2]
  by_cases h1 : k = 1
  · subst h1
    obtain ⟨hr, _⟩ := fine1_iff.1 hf
    rw [if_pos rfl, if_pos rfl, rename_res1 ht hf, place_map (fun a ha e => im_inj ht (hr a ha) hx e), place_map (fun a ha e => im_inj ht (hr a ha) hy e)]
  · rw [if_neg h1, if_neg h1]
    by_cases h2 : k = 2
    · subst h2
      rw [if_pos rfl, if_pos rfl]
      have e1 : (0 ≤ placeL (renameL 2 l p).1.2 (imL p x)) ↔ 0 ≤ placeL l x := by rw [place_nonneg, place_nonneg]; exact rename_mem2 ht hf hx.1 hx.2
      have e2 : (0 ≤ placeL (renameL 2 l p).1.2 (imL p y)) ↔ 0 ≤ placeL l y := by rw [place_nonneg, place_nonneg]; exact rename_mem2 ht hf hy.1 hy.2
      rw [decide_eq_decide.2 e1, decide_eq_decide.2 (show placeL (renameL 2 l p).1.2 (imL p y) < 0 ↔ placeL l y < 0 by omega)]
    · rw [if_neg h2, if_neg h2]
      have h3 : k = 3 := Decidable.byContradiction fun h => by rw [fine_else h1 h2 h] at hf; cases hf
      subst h3
      rw [if_pos rfl, if_pos rfl]
      obtain ⟨_, hl⟩ := fine3_iff.1 hf
      obtain ⟨_, hl2⟩ := fine3_iff.1 (rename_fine ht hf)
      obtain ⟨i, rfl⟩ : ∃ i : Nat, x = i := ⟨x.toNat, by omega⟩
      obtain ⟨j, rfl⟩ : ∃ j : Nat, y = j := ⟨y.toNat, by omega⟩
      obtain ⟨a, ha, ham⟩ := get_of (show i < p.length by omega)
      obtain ⟨b, hb, hbm⟩ := get_of (show j < p.length by omega)
      have har := turned_range ht ham
      have hbr := turned_range ht hbm
      obtain ⟨m, rfl⟩ : ∃ m : Nat, a = m := ⟨a.toNat, by omega⟩
      obtain ⟨n, rfl⟩ : ∃ n : Nat, b = n := ⟨b.toNat, by omega⟩
      rw [im_at' ha, im_at' hb]
      have e1 := rename_at3 ht hf ha
      have e2 := rename_at3 ht hf hb
      rw [Int.toNat_natCast, Int.toNat_natCast, Int.toNat_natCast, Int.toNat_natCast, e1, e2, hl2, hl]
      rw [decide_eq_true hx.2, decide_eq_true hy.2, decide_eq_true har.2, decide_eq_true hbr.2]
/-- Who is left, by the new names. -/
def movedL (p : List Int) (left : List Bool) : List Bool := (List.range p.length).map fun (c : Nat) => left[(placeL p (c : Int)).toNat]?.getD false
theorem moved_at {p : List Int} {left : List Bool} (ht : turnedL p = true) {i m : Nat} (hi : p[i]? = some (m : Int)) : (movedL p left)[m]?.getD false = left[i]?.getD false := by
  have hm := turned_range ht (List.mem_of_getElem? hi)
  have hmp : m < p.length := by omega
  simp [movedL, hmp, place_nodup (turned_nodup ht) hi]
theorem moved_left {p : List Int} {left : List Bool} (ht : turnedL p = true) {x : Int} (hx : 0 ≤ x ∧ x < p.length) : isLeft (movedL p left) (imL p x) = isLeft left x := by
  obtain ⟨i, rfl⟩ : ∃ i : Nat, x = i := ⟨x.toNat, by omega⟩
  obtain ⟨y, hy, hm⟩ := get_of (show i < p.length by omega)
  have hyr := turned_range ht hm
  obtain ⟨m, rfl⟩ : ∃ m : Nat, y = m := ⟨y.toNat, by omega⟩
  rw [im_at' hy]
  have := moved_at (left := left) ht hy
  simp [isLeft, this]
theorem keep_fine {k : Int} {l p : List Int} {left : List Bool} (ht : turnedL p = true) (hf : fineL k l p.length = true) : fineL k (keepL k l left) p.length = true := by
  have hl := turned_len ht
  exact (check_zero.1 (keep_right (left := left) (check_zero.2 ⟨by omega, hf⟩))).2
/-- To keep and to rename commute. -/
theorem rename_keep {k : Int} {l p : List Int} {left : List Bool} (ht : turnedL p = true) (hf : fineL k l p.length = true) : (renameL k (keepL k l left) p).1.2 = keepL k (renameL k l p).1.2 (movedL p left) := by
  have hk := keep_fine (left := left) ht hf
  by_cases h1 : k = 1
  · subst h1
    obtain ⟨hr, _⟩ := fine1_iff.1 hf
    rw [rename_res1 ht hk, rename_res1 ht hf]
    show (l.filter (isLeft left)).map (imL p) = (l.map (imL p)).filter (isLeft (movedL p left))
    rw [List.filter_map]
    congr 1
    exact List.filter_congr fun x hx => (moved_left ht (hr x hx)).symm
  · by_cases h2 : k = 2
    · subst h2
      obtain ⟨hr, _⟩ := fine2_iff.1 hf
      refine sorted_unique (fine2_iff.1 (rename_fine ht hk)).2 ((fine2_iff.1 (rename_fine ht hf)).2.filter _) fun y => ?_
      show y ∈ (renameL 2 (keepL 2 l left) p).1.2 ↔ y ∈ (renameL 2 l p).1.2.filter (isLeft (movedL p left))
      by_cases hy : 0 ≤ y ∧ y < p.length
      · have hb := im_range (back_turned ht) (m := y) hy.1 (by rw [back_len]; exact hy.2)
        rw [back_len] at hb
        obtain ⟨i, rfl⟩ : ∃ i : Nat, y = i := ⟨y.toNat, by omega⟩
        have hm := turned_mem ht (show i < p.length by omega)
        have hg := place_get p (i : Int) hm
        have h0 := (place_nonneg p (i : Int)).2 hm
        have hlt := place_lt p (i : Int)
        have e : imL p (placeL p (i : Int)) = (i : Int) := by unfold imL; rw [hg]; rfl
        have r1 := rename_mem2 ht hk h0 hlt
        have r2 := rename_mem2 ht hf h0 hlt
        have r3 := moved_left (left := left) ht ⟨h0, hlt⟩
        rw [e] at r1 r2 r3
        rw [r1, List.mem_filter, r2, r3]
        show _ ∈ l.filter (isLeft left) ↔ _
        rw [List.mem_filter]
      · constructor
        · intro h; exact absurd ((fine2_iff.1 (rename_fine ht hk)).1 y h) hy
        · intro h; exact absurd ((fine2_iff.1 (rename_fine ht hf)).1 y (List.mem_filter.1 h).1) hy
    · have h3 : k = 3 := Decidable.byContradiction fun h => by rw [fine_else h1 h2 h] at hf; cases hf
      subst h3
      obtain ⟨_, hl⟩ := fine3_iff.1 hf
      rw [rename_res3 ht hk, rename_res3 ht hf]
      show _ = ((List.range p.length).map fun (c : Nat) => l[(placeL p (c : Int)).toNat]?.getD 0).mapIdx fun i m => if (movedL p left)[i]?.getD false then m else 0
      apply List.ext_getElem?
      intro c
      by_cases hc : c < p.length
      · have hm := turned_mem ht hc
        have h0 := (place_nonneg p (c : Int)).2 hm
        have hlt := place_lt p (c : Int)
        obtain ⟨z, hz, _⟩ := get_of (show (placeL p (c : Int)).toNat < l.length by omega)
        have e : keepL 3 l left = l.mapIdx fun i m => if left[i]?.getD false then m else 0 := rfl
        simp [hc, e, List.getElem?_mapIdx, hz, movedL]
      · rw [List.getElem?_eq_none (by simp; omega), List.getElem?_eq_none (by simp; omega)]
end Go.Proofs.YtncdaicaljpgfaaGreat
set_option linter.unusedVariables false
namespace Go.Proofs.YtncdaicaljpgfaaGreat
instance : Inhabited Rt := ⟨⟨false, none, none⟩⟩
def seatsGo (n : Int) : List Int → List Int → Option (List Int)
  | [], acc => some acc
  | c :: r, acc => if c < 0 ∨ n ≤ c then none else seatsGo n r (acc.set c.toNat (acc.getD c.toNat 0 + 1))
def seatsL (el : List Int) (n : Int) : Option (List Int) := if n < 1 ∨ 10 < n then none else seatsGo n el (List.replicate n.toNat 0)
def ofL (l : List Int) (n : Int) : Bool := l.all fun c => decide (0 ≤ c ∧ c < n)
def ofRd (d : Rd) (n : Int) : Bool := decide ((d.had.l.length : Int) = n) && ofL d.el.l n && ofL d.out.l n
def ofTi (t : Ti) (n : Int) : Bool := ofL t.among.l n && ofL [t.chosen] n
def fitsO (o : Oc) (n : Int) : Bool := ofL o.el.l n && (o.rounds.l.all fun d => ofRd d n) && (o.ties.l.all fun t => ofTi t n)
/-- Numbers from 0 to 9 in order. -/
def risingL (l : List Int) : List Int := (List.range 10).flatMap fun (n : Nat) => l.filter fun x => decide (x = (n : Int))
def hadP (p : List Int) (l : List Rt) : List Rt := (List.range p.length).map fun (c : Nat) => l.getD (placeL p (c : Int)).toNat default
def renRd (p : List Int) (d : Rd) : Rd := { had := some (hadP p d.had.l), lost := d.lost, el := d.el.map (·.map (imL p)), out := d.out.map (·.map (imL p)) }
def renTi (p : List Int) (t : Ti) : Ti := { among := t.among.map (fun l => risingL (l.map (imL p))), chosen := imL p t.chosen }
def renO (p : List Int) (o : Oc) : Oc := { el := o.el.map (·.map (imL p)), rounds := o.rounds.map (·.map (renRd p)), ties := o.ties.map (·.map (renTi p)) }
def zeroO : Oc := ⟨none, none, none⟩
def renL (o : Oc) (p : List Int) : Oc × Int := if turnedL p = true ∧ fitsO o p.length = true then (renO p o, 0) else (zeroO, 2)
/-- What outcomes hold, whether nil or empty. -/
abbrev ErRt := Bool × List Int × List Int
abbrev ErRd := List ErRt × ErRt × List Int × List Int
instance decRt : DecidableEq ErRt := inferInstance
instance decRd : DecidableEq ErRd := inferInstance
def erRt (r : Rt) : ErRt := (r.neg, r.num.l, r.den.l)
def erRd (d : Rd) : ErRd := (d.had.l.map erRt, erRt d.lost, d.el.l, d.out.l)
def erTi (t : Ti) : List Int × Int := (t.among.l, t.chosen)
abbrev ErOc := List Int × List ErRd × List (List Int × Int)
def erOc (o : Oc) : ErOc := (o.el.l, o.rounds.l.map erRd, o.ties.l.map erTi)
def sameRt (a b : Rt) : Bool := decide (erRt a = erRt b)
def sameRd (a b : Rd) : Bool := decide (erRd a = erRd b)
def sameTi (a b : Ti) : Bool := decide (erTi a = erTi b)
def sameO (a b : Oc) : Bool := decide (a.el.l = b.el.l) && decide (a.rounds.l.map erRd = b.rounds.l.map erRd) && decide (a.ties.l.map erTi = b.ties.l.map erTi)
theorem sameO_iff {a b : Oc} : sameO a b = true ↔ erOc a = erOc b := by
  unfold sameO erOc
  simp only [Bool.and_eq_true, decide_eq_true_eq, Prod.mk.injEq, and_assoc]
theorem sameO_er {a b c d : Oc} (h1 : erOc a = erOc c) (h2 : erOc b = erOc d) : sameO a b = sameO c d := by
  rw [Bool.eq_iff_iff, sameO_iff, sameO_iff, h1, h2]
theorem sameO_refl (a : Oc) : sameO a a = true := sameO_iff.2 rfl
theorem l_map {α β : Type} {o : Nl α} {f : List α → List β} (h : f [] = []) : Nl.l (o.map f) = f o.l := by cases o <;> simp [Nl.l, h]
/-- A list that is compared place by place. -/
theorem list_eq {α β : Type} {e : α → β} {a b : List α} (hl : a.length = b.length) (h : ∀ (i : Nat) (x y : α), a[i]? = some x → b[i]? = some y → e x = e y) : a.map e = b.map e := by
  apply List.ext_getElem?
  intro i
  rw [List.getElem?_map, List.getElem?_map]
  by_cases q : i < a.length
  · have h1 : a[i]? = some a[i] := List.getElem?_eq_getElem q
    have h2 : b[i]? = some (b[i]'(by omega)) := List.getElem?_eq_getElem _
    rw [h1, h2]
    simp only [Option.map_some]
    rw [h i _ _ h1 h2]
  · rw [List.getElem?_eq_none (by omega), List.getElem?_eq_none (by omega)]
theorem list_ne {α β : Type} {e : α → β} {a b : List α} {i : Nat} {x y : α} (ha : a[i]? = some x) (hb : b[i]? = some y) (h : e x ≠ e y) : a.map e ≠ b.map e := fun he => by
  have := congrArg (fun l => l[i]?) he
  simp only [List.getElem?_map, ha, hb, Option.map_some, Option.some.injEq] at this
  exact h this
theorem ofL_iff {l : List Int} {n : Int} : ofL l n = true ↔ ∀ x ∈ l, 0 ≤ x ∧ x < n := by
  unfold ofL
  simp only [List.all_eq_true, decide_eq_true_eq]
theorem rising_perm {l : List Int} (h : ∀ x ∈ l, 0 ≤ x ∧ x < 10) : (risingL l).Perm l ∧ (risingL l).Pairwise (· ≤ ·) := by
  have cnt : ∀ (k : Nat) (x : Int), ((List.range k).flatMap fun (n : Nat) => l.filter fun x => decide (x = (n : Int))).count x = if 0 ≤ x ∧ x < (k : Int) then l.count x else 0 := by
    intro k x
    induction k with
    | zero => simp; omega
    | succ k ih =>
      rw [List.range_succ, List.flatMap_append, List.count_append, ih]
      simp only [List.flatMap_cons, List.flatMap_nil, List.append_nil]
      by_cases hx : x = (k : Int)
      · subst hx
        rw [if_neg (by omega), if_pos (by omega), List.count_filter (by simp)]
        omega
      · have : (l.filter fun x => decide (x = (k : Int))).count x = 0 := by
          rw [List.count_eq_zero]
          intro hm
          have := (List.mem_filter.1 hm).2
          simp at this
          exact hx this
        rw [this, Nat.add_zero]
        by_cases h1 : 0 ≤ x ∧ x < (k : Int)
        · rw [if_pos h1, if_pos (by omega)]
        · rw [if_neg h1, if_neg (by omega)]
  constructor
  · rw [List.perm_iff_count]
    intro x
    unfold risingL
    rw [cnt 10 x]
    by_cases hx : 0 ≤ x ∧ x < (10 : Nat)
    · rw [if_pos hx]
    · rw [if_neg hx]
      exact (List.count_eq_zero.2 (fun hm => hx (h x hm))).symm
  · have srt : ∀ (k : Nat), (((List.range k).flatMap fun (n : Nat) => l.filter fun x => decide (x = (n : Int))).Pairwise (· ≤ ·)) ∧ ∀ x ∈ ((List.range k).flatMap fun (n : Nat) => l.filter fun x => decide (x = (n : Int))), x < k := by
      intro k
      induction k with
      | zero => simp
      | succ k ih =>
        rw [List.range_succ, List.flatMap_append]
        simp only [List.flatMap_cons, List.flatMap_nil, List.append_nil]
        have hk : ∀ x ∈ (l.filter fun x => decide (x = (k : Int))), x = (k : Int) := fun x hx => by simpa using (List.mem_filter.1 hx).2
        refine ⟨List.pairwise_append.2 ⟨ih.1, ?_, fun a ha b hb => ?_⟩, fun x hx => ?_⟩
        · refine List.pairwise_iff_forall_sublist.2 (fun {a b} hs => ?_)
          have h1 := hk a (hs.subset (by simp))
          have h2 := hk b (hs.subset (by simp))
          omega
        · have h1 := ih.2 a ha
          have h2 := hk b hb
          omega
        · rcases List.mem_append.1 hx with hx | hx
          · have := ih.2 x hx; omega
          · have := hk x hx; omega
    exact (srt 10).1
theorem rising_eq {l m : List Int} (h : ∀ x ∈ l, 0 ≤ x ∧ x < 10) (hp : l.Perm m) (hs : m.Pairwise (· ≤ ·)) : m = risingL l := by
  obtain ⟨h1, h2⟩ := rising_perm h
  exact List.Perm.eq_of_pairwise (fun a b _ _ h1 h2 => Int.le_antisymm h1 h2) hs h2 (hp.symm.trans h1.symm)
theorem had_len (p : List Int) (l : List Rt) : (hadP p l).length = p.length := by simp [hadP]
/-- What is laid at each candidate's new number is the list renamed. -/
theorem had_eq {p : List Int} (ht : turnedL p = true) {l q : List Rt} (hq : q.length = p.length) (hl : l.length = p.length) (h : ∀ (c : Nat) (m : Nat) (x : Rt), p[c]? = some (m : Int) → l[c]? = some x → q[m]? = some x) : q = hadP p l := by
  apply List.ext_getElem?
  intro m
  by_cases hm : m < p.length
  · have hmem := turned_mem ht hm
    obtain ⟨c, hc⟩ := List.mem_iff_getElem?.1 hmem
    have hcl := (List.getElem?_eq_some_iff.1 hc).1
    have hx : l[c]? = some (l[c]'(by omega)) := List.getElem?_eq_getElem _
    rw [h c m _ hc hx]
    unfold hadP
    rw [List.getElem?_map, List.getElem?_range hm, Option.map_some, place_nodup (turned_nodup ht) hc]
    simp [hx]
  · rw [List.getElem?_eq_none (by omega), List.getElem?_eq_none (by rw [had_len]; omega)]
theorem had_at {p : List Int} (ht : turnedL p = true) {l : List Rt} (hl : l.length = p.length) {c m : Nat} {x : Rt} (hc : p[c]? = some (m : Int)) (hx : l[c]? = some x) : (hadP p l)[m]? = some x := by
  have hm : m < p.length := by
    have := turned_range ht (List.mem_of_getElem? hc); omega
  unfold hadP
  rw [List.getElem?_map, List.getElem?_range hm, Option.map_some, place_nodup (turned_nodup ht) hc]
  simp [hx]
end Go.Proofs.YtncdaicaljpgfaaGreat
set_option linter.unusedVariables false
namespace Go.Proofs.YtncdaicaljpgfaaGreat
/-- The quotient rounded up, as the reference takes it. -/
def ceilD (a g : Int) : Int := if a.tdiv g * g < a then a.tdiv g + 1 else a.tdiv g
theorem ceilD_spec {a g : Int} (hg : 0 < g) (ha : 0 ≤ a) : a ≤ ceilD a g * g ∧ (ceilD a g - 1) * g < a := by
  have h1 : a.tdiv g = a / g := Int.tdiv_eq_ediv_of_nonneg ha
  have h2 := Int.mul_ediv_add_emod a g
  have h3 := Int.emod_nonneg a (Int.ne_of_gt hg)
  have h4 := Int.emod_lt_of_pos a hg
  have h5 : a / g * g = g * (a / g) := Int.mul_comm _ _
  unfold ceilD
  rw [h1]
  split
  · rename_i h
    rw [Int.add_mul, Int.one_mul, Int.add_sub_cancel]
    omega
  · rename_i h
    have : (a / g - 1) * g = a / g * g - g := by rw [Int.sub_mul, Int.one_mul]
    omega
theorem ceil_uniq {a g x y : Int} (hg : 0 < g) (h1 : a ≤ x * g) (h2 : (x - 1) * g < a) (h3 : a ≤ y * g) (h4 : (y - 1) * g < a) : x = y := by
  have e1 : (x - 1) * g < y * g := by omega
  have e2 : (y - 1) * g < x * g := by omega
  have f1 := Int.lt_of_mul_lt_mul_right e1 (Int.le_of_lt hg)
  have f2 := Int.lt_of_mul_lt_mul_right e2 (Int.le_of_lt hg)
  omega
theorem ceilD_sub {a g d : Int} (hg : 0 < g) (ha : 0 ≤ a) (hd : 0 ≤ a - g * d) : ceilD (a - g * d) g = ceilD a g - d := by
  obtain ⟨h1, h2⟩ := ceilD_spec hg ha
  obtain ⟨h3, h4⟩ := ceilD_spec hg hd
  have e1 : (ceilD a g - d) * g = ceilD a g * g - g * d := by rw [Int.sub_mul, Int.mul_comm d g]
  have e2 : (ceilD a g - d - 1) * g = (ceilD a g - 1) * g - g * d := by
    rw [show ceilD a g - d - 1 = (ceilD a g - 1) - d by omega, Int.sub_mul, Int.mul_comm d g]
  exact ceil_uniq hg h3 h4 (by omega) (by omega)
/-- The program's rounding up. -/
theorem ceil_prog {a g : Int} (hg : 0 < g) (ha : 0 < a) : (a + g - 1).tdiv g = ceilD a g := by
  have h0 : 0 ≤ a + g - 1 := by omega
  rw [Int.tdiv_eq_ediv_of_nonneg h0]
  obtain ⟨h3, h4⟩ := ceilD_spec hg (Int.le_of_lt ha)
  have h2 := Int.mul_ediv_add_emod (a + g - 1) g
  have h5 := Int.emod_nonneg (a + g - 1) (Int.ne_of_gt hg)
  have h6 := Int.emod_lt_of_pos (a + g - 1) hg
  have h7 : (a + g - 1) / g * g = g * ((a + g - 1) / g) := Int.mul_comm _ _
  refine ceil_uniq hg ?_ ?_ h3 h4
  · omega
  · have : ((a + g - 1) / g - 1) * g = (a + g - 1) / g * g - g := by rw [Int.sub_mul, Int.one_mul]
    omega
/-- As the reference takes ballots: all of the best row, or as many as are still needed. -/
def runR : List (Int × Int) → Int → Int → Int × Bool
  | [], need, n => if 0 < need then (0, false) else (n, true)
  | (g, c) :: r, need, n => if 0 < need then (if g = 0 then (0, false) else if need ≤ g * c then (n + ceilD need g, true) else runR r (need - g * c) (n + c)) else (n, true)
/-- As the program takes them. -/
def runP : List (Int × Int) → Int → Int → Int × Bool
  | [], need, n => if 0 < need then (0, false) else (n, true)
  | (g, c) :: r, need, n => if need ≤ 0 ∨ g = 0 then (if 0 < need then (0, false) else (n, true)) else runP r (need - min c ((need + g - 1).tdiv g) * g) (n + min c ((need + g - 1).tdiv g))
theorem runP_done : ∀ (l : List (Int × Int)) {need n : Int}, need ≤ 0 → runP l need n = (n, true)
  | [], need, n, h => by unfold runP; rw [if_neg (by omega)]
  | (g, c) :: r, need, n, h => by unfold runP; rw [if_pos (.inl h), if_neg (by omega)]
theorem runP_R : ∀ (l : List (Int × Int)), (∀ p ∈ l, 0 ≤ p.1 ∧ 0 ≤ p.2) → ∀ need n : Int, runP l need n = runR l need n
  | [], _, need, n => rfl
  | (g, c) :: r, hl, need, n => by
    have ih := runP_R r (fun p hp => hl p (List.mem_cons_of_mem _ hp))
    obtain ⟨hg0, hc0⟩ := hl (g, c) List.mem_cons_self
    unfold runP runR
    by_cases hn : 0 < need
    · simp only [if_pos hn]
      by_cases hg : g = 0
      · simp only [if_pos hg, if_pos (show need ≤ 0 ∨ g = 0 from .inr hg)]
      · have hgp : 0 < g := by have : 0 ≤ g := hg0; omega
        simp only [if_neg (show ¬ (need ≤ 0 ∨ g = 0) by omega), if_neg hg, ceil_prog hgp hn]
        obtain ⟨h1, h2⟩ := ceilD_spec hgp (Int.le_of_lt hn)
        by_cases hc : need ≤ g * c
        · simp only [if_pos hc]
          have hle : ceilD need g ≤ c := by
            have : (ceilD need g - 1) * g < c * g := by rw [Int.mul_comm c g]; omega
            have := Int.lt_of_mul_lt_mul_right this (Int.le_of_lt hgp)
            omega
          rw [show min c (ceilD need g) = ceilD need g by omega]
          exact runP_done r (show need - ceilD need g * g ≤ 0 by omega)
        · simp only [if_neg hc]
          have hle : c ≤ ceilD need g := by
            have : c * g < ceilD need g * g := by rw [Int.mul_comm c g]; omega
            have := Int.lt_of_mul_lt_mul_right this (Int.le_of_lt hgp)
            omega
          rw [show min c (ceilD need g) = c by omega, ih, Int.mul_comm c g]
    · simp only [if_pos (show need ≤ 0 ∨ g = 0 by omega), if_neg hn]
theorem runR_swap {g c d : Int} {r : List (Int × Int)} (hg : 0 ≤ g) (hc : 0 ≤ c) (hd : 0 ≤ d) (need n : Int) : runR ((g, c) :: (g, d) :: r) need n = runR ((g, d) :: (g, c) :: r) need n := by
  simp only [runR]
  by_cases hn : 0 < need
  · simp only [if_pos hn]
    by_cases hg0 : g = 0
    · simp only [if_pos hg0]
    · have hgp : 0 < g := by omega
      have hgc : 0 ≤ g * c := Int.mul_nonneg hg hc
      have hgd : 0 ≤ g * d := Int.mul_nonneg hg hd
      simp only [if_neg hg0]
      by_cases h1 : need ≤ g * c
      · simp only [if_pos h1]
        by_cases h2 : need ≤ g * d
        · simp only [if_pos h2]
        · simp only [if_neg h2, if_pos (show 0 < need - g * d by omega), if_pos (show need - g * d ≤ g * c by omega)]
          rw [ceilD_sub hgp (by omega) (by omega)]
          congr 1; omega
      · simp only [if_neg h1, if_pos (show 0 < need - g * c by omega)]
        by_cases h2 : need ≤ g * d
        · simp only [if_pos h2, if_pos (show need - g * c ≤ g * d by omega)]
          rw [ceilD_sub hgp (by omega) (by omega)]
          congr 1; omega
        · simp only [if_neg h2, if_pos (show 0 < need - g * d by omega)]
          by_cases h3 : need - g * c ≤ g * d
          · simp only [if_pos h3, if_pos (show need - g * d ≤ g * c by omega)]
            rw [ceilD_sub hgp (by omega) (by omega), ceilD_sub hgp (by omega) (by omega)]
            congr 1; omega
          · simp only [if_neg h3, if_neg (show ¬ need - g * d ≤ g * c by omega)]
            rw [show need - g * c - g * d = need - g * d - g * c by omega, show n + c + d = n + d + c by omega]
  · simp only [if_neg hn]
theorem runR_congr {x : Int × Int} {a b : List (Int × Int)} (h : ∀ need n, runR a need n = runR b need n) (need n : Int) : runR (x :: a) need n = runR (x :: b) need n := by
  obtain ⟨g, c⟩ := x
  simp only [runR, h]
theorem runR_bubble {x : Int × Int} {s : List (Int × Int)} : ∀ (p : List (Int × Int)), (∀ y ∈ x :: p, 0 ≤ y.1 ∧ 0 ≤ y.2) → (∀ y ∈ p, y.1 = x.1) → ∀ need n, runR (p ++ x :: s) need n = runR (x :: (p ++ s)) need n
  | [], _, _, need, n => rfl
  | y :: p, h0, he, need, n => by
    have ih := runR_bubble (x := x) (s := s) p (fun z hz => h0 z (by rcases List.mem_cons.1 hz with rfl | h; exact List.mem_cons_self; exact List.mem_cons_of_mem _ (List.mem_cons_of_mem _ h))) (fun z hz => he z (List.mem_cons_of_mem _ hz))
    have hy := h0 y (List.mem_cons_of_mem _ List.mem_cons_self)
    have hx := h0 x List.mem_cons_self
    have e := he y List.mem_cons_self
    rw [List.cons_append, runR_congr ih, List.cons_append]
    obtain ⟨gy, cy⟩ := y
    obtain ⟨gx, cx⟩ := x
    simp only at e hx hy
    subst e
    exact runR_swap hy.1 hy.2 hx.2 need n
/-- Whichever order equal gains stand in. -/
theorem runR_perm : ∀ (l m : List (Int × Int)), (∀ p ∈ l, 0 ≤ p.1 ∧ 0 ≤ p.2) → l.Perm m → l.Pairwise (fun x y => y.1 ≤ x.1) → m.Pairwise (fun x y => y.1 ≤ x.1) → ∀ need n, runR l need n = runR m need n
  | [], m, _, hp, _, _, need, n => by rw [hp.nil_eq]
  | x :: t, m, h0, hp, hl, hm, need, n => by
    obtain ⟨p, s, rfl⟩ := List.append_of_mem (hp.subset List.mem_cons_self)
    rw [List.pairwise_append] at hm
    obtain ⟨m1, m2, m3⟩ := hm
    rw [List.pairwise_cons] at m2 hl
    have hps : t.Perm (p ++ s) := by
      have h2 : (x :: t).Perm (x :: (p ++ s)) := hp.trans List.perm_middle
      exact List.Perm.cons_inv h2
    have hpe : ∀ y ∈ p, y.1 = x.1 := fun y hy => by
      have a1 := m3 y hy x List.mem_cons_self
      have a2 : y ∈ t := hps.symm.subset (List.mem_append_left _ hy)
      have a3 := hl.1 y a2
      omega
    have h0m : ∀ y ∈ x :: p, 0 ≤ y.1 ∧ 0 ≤ y.2 := fun y hy => by
      rcases List.mem_cons.1 hy with rfl | h
      · exact h0 _ List.mem_cons_self
      · exact h0 y (hp.symm.subset (List.mem_append_left _ h))
    rw [runR_bubble p h0m hpe]
    refine runR_congr (fun need n => runR_perm t (p ++ s) (fun q hq => h0 q (List.mem_cons_of_mem _ hq)) hps hl.2 ?_ need n) need n
    rw [List.pairwise_append]
    exact ⟨m1, m2.2, fun a ha b hb => m3 a ha b (List.mem_cons_of_mem _ hb)⟩
end Go.Proofs.YtncdaicaljpgfaaGreat
set_option linter.unusedVariables false
namespace Go.Proofs.YtncdaicaljpgfaaGreat
/-- The best row that is not used, among the first so many; -1: there is none. -/
def bstep (l : List (Int × Int)) (us : List Bool) (b : Int) (i : Nat) : Int := if us.getD i true = false ∧ (b < 0 ∨ (l.getD b.toNat (0, 0)).1 < (l.getD i (0, 0)).1) then (i : Int) else b
def bscan (l : List (Int × Int)) (us : List Bool) : Nat → Int
  | 0 => -1
  | j + 1 => bstep l us (bscan l us j) j
theorem bscan_spec (l : List (Int × Int)) (us : List Bool) : ∀ j, (bscan l us j = -1 ∧ ∀ i, i < j → us.getD i true = true) ∨ ∃ k : Nat, bscan l us j = k ∧ k < j ∧ us.getD k true = false ∧ ∀ i, i < j → us.getD i true = false → (l.getD i (0, 0)).1 ≤ (l.getD k (0, 0)).1
  | 0 => .inl ⟨rfl, fun i hi => by omega⟩
  | j + 1 => by
    have e : bscan l us (j + 1) = bstep l us (bscan l us j) j := rfl
    rw [e]
    rcases bscan_spec l us j with ⟨h1, h2⟩ | ⟨k, h1, h2, h3, h4⟩
    · rw [h1]
      unfold bstep
      by_cases hu : us.getD j true = false
      · rw [if_pos ⟨hu, .inl (by omega)⟩]
        refine .inr ⟨j, rfl, by omega, hu, fun i hi hn => ?_⟩
        by_cases e : i = j
        · subst e; exact Int.le_refl _
        · have := h2 i (by omega); rw [hn] at this; cases this
      · rw [if_neg (fun h => hu h.1)]
        refine .inl ⟨rfl, fun i hi => ?_⟩
        by_cases e : i = j
        · subst e; simpa using hu
        · exact h2 i (by omega)
    · rw [h1]
      unfold bstep
      by_cases hu : us.getD j true = false ∧ (((k : Nat) : Int) < 0 ∨ (l.getD ((k : Nat) : Int).toNat (0, 0)).1 < (l.getD j (0, 0)).1)
      · rw [if_pos hu]
        obtain ⟨hu1, hu2⟩ := hu
        rw [Int.toNat_natCast] at hu2
        refine .inr ⟨j, rfl, by omega, hu1, fun i hi hn => ?_⟩
        by_cases e : i = j
        · subst e; exact Int.le_refl _
        · have := h4 i (by omega) hn; omega
      · rw [if_neg hu]
        refine .inr ⟨k, rfl, by omega, h3, fun i hi hn => ?_⟩
        by_cases e : i = j
        · subst e
          rw [Int.toNat_natCast] at hu
          have : ¬ (l.getD k (0, 0)).1 < (l.getD i (0, 0)).1 := fun h => hu ⟨hn, .inr h⟩
          omega
        · exact h4 i (by omega) hn
/-- The rows as they are picked. -/
def ordL (l : List (Int × Int)) : Nat → List Bool → List (Int × Int)
  | 0, _ => []
  | f + 1, us => if bscan l us l.length < 0 then [] else l.getD (bscan l us l.length).toNat (0, 0) :: ordL l f (us.set (bscan l us l.length).toNat true)
/-- The reference's loop. -/
def refR (l : List (Int × Int)) : Nat → List Bool → Int → Int → Int × Bool
  | 0, _, need, n => if 0 < need then (0, false) else (n, true)
  | f + 1, us, need, n =>
    if 0 < need then
      if bscan l us l.length < 0 then (0, false) else
      if (l.getD (bscan l us l.length).toNat (0, 0)).1 = 0 then (0, false) else
      if need ≤ (l.getD (bscan l us l.length).toNat (0, 0)).1 * (l.getD (bscan l us l.length).toNat (0, 0)).2 then (n + ceilD need (l.getD (bscan l us l.length).toNat (0, 0)).1, true) else
      refR l f (us.set (bscan l us l.length).toNat true) (need - (l.getD (bscan l us l.length).toNat (0, 0)).1 * (l.getD (bscan l us l.length).toNat (0, 0)).2) (n + (l.getD (bscan l us l.length).toNat (0, 0)).2)
    else (n, true)
theorem refR_ord (l : List (Int × Int)) : ∀ f us need n, refR l f us need n = runR (ordL l f us) need n
  | 0, us, need, n => rfl
  | f + 1, us, need, n => by
    unfold refR ordL
    by_cases h : bscan l us l.length < 0
    · rw [if_pos h, if_pos h]; rfl
    · rw [if_neg h, if_neg h]
      generalize l.getD (bscan l us l.length).toNat (0, 0) = p
      obtain ⟨g, c⟩ := p
      show _ = (if 0 < need then (if g = 0 then (0, false) else if need ≤ g * c then (n + ceilD need g, true) else runR _ (need - g * c) (n + c)) else (n, true))
      dsimp only
      rw [refR_ord l f]
/-- What is not used. -/
def freeL : List (Int × Int) → List Bool → List (Int × Int)
  | [], _ => []
  | p :: l, [] => []
  | p :: l, u :: us => if u then freeL l us else p :: freeL l us
theorem freeL_all : ∀ (l : List (Int × Int)), freeL l (List.replicate l.length false) = l
  | [] => rfl
  | p :: l => by
    show (if false = true then _ else p :: freeL l (List.replicate l.length false)) = _
    rw [if_neg (by decide), freeL_all l]
theorem freeL_set : ∀ {l : List (Int × Int)} {us : List Bool} {k : Nat}, k < l.length → us.getD k true = false → (freeL l us).Perm (l.getD k (0, 0) :: freeL l (us.set k true))
  | [], us, k, h, _ => by simp at h
  | p :: l, [], k, h, hu => by simp at hu
  | p :: l, u :: us, 0, h, hu => by
    have hu : u = false := by simpa using hu
    subst hu
    show (if false = true then _ else p :: freeL l us).Perm (p :: (if true = true then freeL l us else _))
    rw [if_neg (by decide), if_pos rfl]
  | p :: l, u :: us, k + 1, h, hu => by
    have ih := freeL_set (l := l) (us := us) (k := k) (by simpa using h) (by simpa using hu)
    show (if u = true then freeL l us else p :: freeL l us).Perm (l.getD k (0, 0) :: (if u = true then freeL l (us.set k true) else p :: freeL l (us.set k true)))
    cases u with
    | true => rw [if_pos rfl, if_pos rfl]; exact ih
    | false =>
      rw [if_neg (by decide), if_neg (by decide)]
      exact (ih.cons p).trans (.swap _ _ _)
theorem freeL_mem : ∀ {l : List (Int × Int)} {us : List Bool} {x : Int × Int}, x ∈ freeL l us → ∃ i, i < l.length ∧ us.getD i true = false ∧ l.getD i (0, 0) = x
  | [], us, x, h => by simp [freeL] at h
  | p :: l, [], x, h => by simp [freeL] at h
  | p :: l, u :: us, x, h => by
    have h : x ∈ (if u = true then freeL l us else p :: freeL l us) := h
    have key : x ∈ freeL l us → ∃ i, i < (p :: l).length ∧ (u :: us).getD i true = false ∧ (p :: l).getD i (0, 0) = x := fun hx => by
      obtain ⟨i, h1, h2, h3⟩ := freeL_mem hx
      exact ⟨i + 1, by simpa using h1, by simpa using h2, by simpa using h3⟩
    cases u with
    | true => rw [if_pos rfl] at h; exact key h
    | false =>
      rw [if_neg (by decide)] at h
      rcases List.mem_cons.1 h with rfl | hx
      · exact ⟨0, by simp, rfl, rfl⟩
      · exact key hx
theorem free_none : ∀ {l : List (Int × Int)} {us : List Bool}, (∀ i, i < l.length → us.getD i true = true) → freeL l us = []
  | [], us, _ => rfl
  | p :: l, [], _ => rfl
  | p :: l, u :: us, h => by
    have hu : u = true := by simpa using h 0 (by simp)
    subst hu
    exact free_none (l := l) (us := us) fun i hi => by simpa using h (i + 1) (by simpa using hi)
theorem ordL_ok (l : List (Int × Int)) : ∀ f us, (freeL l us).length ≤ f → (ordL l f us).Perm (freeL l us) ∧ (ordL l f us).Pairwise (fun x y => y.1 ≤ x.1)
  | 0, us, h => by
    have : freeL l us = [] := List.length_eq_zero_iff.1 (by omega)
    rw [this]; exact ⟨.refl _, .nil⟩
  | f + 1, us, h => by
    unfold ordL
    rcases bscan_spec l us l.length with ⟨h1, h2⟩ | ⟨k, h1, h2, h3, h4⟩
    · rw [h1, if_pos (by omega), free_none h2]
      exact ⟨.refl _, .nil⟩
    · rw [h1, if_neg (by omega), Int.toNat_natCast]
      have hp := freeL_set h2 h3
      have hl := hp.length_eq
      rw [List.length_cons] at hl
      obtain ⟨i1, i2⟩ := ordL_ok l f (us.set k true) (by omega)
      refine ⟨(i1.cons _).trans hp.symm, List.pairwise_cons.2 ⟨fun y hy => ?_, i2⟩⟩
      have hm : y ∈ freeL l us := hp.mem_iff.2 (List.mem_cons_of_mem _ (i1.mem_iff.1 hy))
      obtain ⟨i, q1, q2, rfl⟩ := freeL_mem hm
      exact h4 i q1 q2
/-- As the reference picks them, or in any other order that goes down. -/
theorem refR_sorted {l m : List (Int × Int)} (h0 : ∀ p ∈ l, 0 ≤ p.1 ∧ 0 ≤ p.2) (hp : l.Perm m) (hm : m.Pairwise (fun x y => y.1 ≤ x.1)) (need n : Int) : refR l l.length (List.replicate l.length false) need n = runR m need n := by
  rw [refR_ord]
  obtain ⟨h1, h2⟩ := ordL_ok l l.length (List.replicate l.length false) (by rw [freeL_all]; exact Nat.le_refl _)
  rw [freeL_all] at h1
  exact runR_perm _ m (fun p h => h0 p (h1.mem_iff.1 h)) (h1.trans hp) h2 hm need n
/-- What the rows add up to. -/
def totR (l : List (Int × Int)) : Int := (l.map fun p => p.1 * p.2).sum
theorem totR_ge : ∀ {l : List (Int × Int)}, (∀ p ∈ l, 0 ≤ p.1 ∧ 0 ≤ p.2) → 0 ≤ totR l
  | [], _ => Int.le_refl _
  | p :: l, h => by
    have h1 := totR_ge (l := l) fun q hq => h q (List.mem_cons_of_mem _ hq)
    have h2 := h p List.mem_cons_self
    have h3 := Int.mul_nonneg h2.1 h2.2
    show 0 ≤ p.1 * p.2 + totR l
    omega
theorem totR_le {b : Int} (hb : 0 ≤ b) : ∀ {l : List (Int × Int)}, (∀ p ∈ l, (0 ≤ p.1 ∧ p.1 ≤ b) ∧ 0 ≤ p.2 ∧ p.2 ≤ b) → totR l ≤ l.length * (b * b)
  | [], _ => by simp [totR]
  | p :: l, h => by
    have h1 := totR_le hb (l := l) fun q hq => h q (List.mem_cons_of_mem _ hq)
    have h2 := h p List.mem_cons_self
    have h3 : p.1 * p.2 ≤ b * b := Int.mul_le_mul h2.1.2 h2.2.2 h2.2.1 hb
    have h4 : ((p :: l).length : Int) * (b * b) = l.length * (b * b) + b * b := by
      rw [List.length_cons]; push_cast; rw [Int.add_mul, Int.one_mul]
    rw [h4]
    show p.1 * p.2 + totR l ≤ _
    omega
/-- More than there is. -/
theorem runR_big : ∀ {l : List (Int × Int)}, (∀ p ∈ l, 0 ≤ p.1 ∧ 0 ≤ p.2) → ∀ {need : Int} (n : Int), totR l < need → runR l need n = (0, false)
  | [], _, need, n, h => by
    have h : (0 : Int) < need := h
    unfold runR; rw [if_pos h]
  | (g, c) :: l, h0, need, n, h => by
    have h1 := totR_ge (l := l) fun q hq => h0 q (List.mem_cons_of_mem _ hq)
    have h2 := h0 (g, c) List.mem_cons_self
    have h3 := Int.mul_nonneg h2.1 h2.2
    have h : g * c + totR l < need := h
    have h3 : 0 ≤ g * c := h3
    unfold runR
    rw [if_pos (by omega)]
    by_cases hg : g = 0
    · rw [if_pos hg]
    · rw [if_neg hg, if_neg (by omega)]
      exact runR_big (fun q hq => h0 q (List.mem_cons_of_mem _ hq)) _ (by omega)
end Go.Proofs.YtncdaicaljpgfaaGreat
set_option linter.unusedVariables false
namespace Go.Proofs.YtncdaicaljpgfaaGreat

theorem fold_max : ∀ (l : List Int) (a : Int), (l.foldl max a = a ∨ l.foldl max a ∈ l) ∧ a ≤ l.foldl max a ∧ ∀ m ∈ l, m ≤ l.foldl max a
  | [], a => ⟨.inl rfl, Int.le_refl _, by simp⟩
  | b :: r, a => by
    rw [List.foldl_cons]
    obtain ⟨h1, h2, h3⟩ := fold_max r (max a b)
    refine ⟨?_, by omega, fun m hm => ?_⟩
    · rcases h1 with h1 | h1
      · rw [h1]
        by_cases h : a ≤ b
        · exact .inr (by rw [Int.max_eq_right h]; simp)
        · exact .inl (Int.max_eq_left (by omega))
      · exact .inr (List.mem_cons_of_mem _ h1)
    · rcases List.mem_cons.1 hm with rfl | hm
      · omega
      · exact h3 m hm
theorem max_spec {l : List Int} (h : l ≠ []) : Lib.maxOf l ∈ l ∧ ∀ m ∈ l, m ≤ Lib.maxOf l := by
  cases l with
  | nil => exact absurd rfl h
  | cons a r =>
    have hm : Lib.maxOf (a :: r) = (a :: r).foldl max a := rfl
    obtain ⟨h1, h2, h3⟩ := fold_max (a :: r) a
    rw [hm]
    refine ⟨?_, h3⟩
    rcases h1 with h1 | h1
    · rw [h1]; simp
    · exact h1
/-- The places below n at which M stands. -/
def placesTo (l : List Int) (M : Int) (n : Nat) : List Nat := (List.range n).filter fun k => decide (l[k]? = some M)
theorem places_hit {l : List Int} {M x : Int} {n : Nat} (h : l[n]? = some x) (e : x = M) : (placesTo l M (n + 1)).length = (placesTo l M n).length + 1 := by
  unfold placesTo
  rw [List.range_succ, List.filter_append, List.length_append]
  subst e
  simp [h]
theorem places_miss {l : List Int} {M x : Int} {n : Nat} (h : l[n]? = some x) (e : x ≠ M) : (placesTo l M (n + 1)).length = (placesTo l M n).length := by
  unfold placesTo
  rw [List.range_succ, List.filter_append, List.length_append]
  simp [h, e]
theorem places_le (l : List Int) (M : Int) (n : Nat) : (placesTo l M n).length ≤ n := by
  unfold placesTo
  exact Nat.le_trans (List.length_filter_le _ _) (by simp)
theorem places_mem {l : List Int} {M : Int} {n k : Nat} : k ∈ placesTo l M n ↔ k < n ∧ l[k]? = some M := by
  unfold placesTo; simp
theorem places_nodup (l : List Int) (M : Int) (n : Nat) : (placesTo l M n).Nodup := List.Nodup.sublist List.filter_sublist List.nodup_range
theorem topAt_iff {l : List Int} {i : Nat} {m : Int} : topAt l i m = true ↔ 0 < m ∧ ∀ k, k < l.length → k ≠ i → l[k]?.getD 0 < m := by
  unfold topAt
  rw [Bool.and_eq_true, decide_eq_true_eq, List.all_eq_true]
  constructor
  · rintro ⟨h1, h2⟩
    refine ⟨h1, fun k hk hne => ?_⟩
    have := h2 k (by simpa using hk)
    simpa [hne] using this
  · rintro ⟨h1, h2⟩
    refine ⟨h1, fun k hk => ?_⟩
    by_cases hne : k = i
    · simp [hne]
    · simp [hne, h2 k (by simpa using hk) hne]
theorem topGo_none {l : List Int} (h : ∀ (i : Nat) (m : Int), l[i]? = some m → topAt l i m = false) : ∀ (d i : Nat), i + d = l.length → topGo l i (l.drop i) = (0, false)
  | 0, i, hi => topGo_end (by omega)
  | d + 1, i, hi => by
    obtain ⟨m, hm⟩ : ∃ m, l[i]? = some m := ⟨_, List.getElem?_eq_getElem (by omega)⟩
    rw [topGo_no hm (h i m hm)]
    exact topGo_none h d (i + 1) (by omega)
theorem topGo_at {l : List Int} {p : Nat} {M : Int} (hp : l[p]? = some M) (ht : topAt l p M = true) (h : ∀ (i : Nat) (m : Int), i < p → l[i]? = some m → topAt l i m = false) : ∀ (d i : Nat), i + d = p → topGo l i (l.drop i) = ((p : Int), true)
  | 0, i, hi => by
    obtain rfl : i = p := by omega
    exact topGo_yes hp ht
  | d + 1, i, hi => by
    have hl := (List.getElem?_eq_some_iff.1 hp).1
    obtain ⟨m, hm⟩ : ∃ m, l[i]? = some m := ⟨_, List.getElem?_eq_getElem (by omega)⟩
    rw [topGo_no hm (h i m (by omega) hm)]
    exact topGo_at hp ht h d (i + 1) (by omega)
theorem top_low {l : List Int} (hne : l ≠ []) (h : Lib.maxOf l ≤ 0) : topGo l 0 (l.drop 0) = (0, false) := by
  refine topGo_none (fun i m hm => ?_) l.length 0 (by omega)
  cases hb : topAt l i m with
  | false => rfl
  | true => have := (topAt_iff.1 hb).1; have := (max_spec hne).2 m (mem_at hm); omega
theorem top_two {l : List Int} (hne : l ≠ []) (h : 1 < (placesTo l (Lib.maxOf l) l.length).length) : topGo l 0 (l.drop 0) = (0, false) := by
  refine topGo_none (fun i m hm => ?_) l.length 0 (by omega)
  cases hb : topAt l i m with
  | false => rfl
  | true =>
    obtain ⟨h1, h2⟩ := topAt_iff.1 hb
    have hn := places_nodup l (Lib.maxOf l) l.length
    have hle := (max_spec hne).2 m (mem_at hm)
    match hS : placesTo l (Lib.maxOf l) l.length, h with
    | a :: b :: r, _ =>
      rw [hS] at hn
      have hab : a ≠ b := by
        intro e
        have := (List.nodup_cons.1 hn).1
        rw [e] at this; simp at this
      have ha := places_mem.1 (show a ∈ placesTo l (Lib.maxOf l) l.length by rw [hS]; simp)
      have hb := places_mem.1 (show b ∈ placesTo l (Lib.maxOf l) l.length by rw [hS]; simp)
      by_cases hai : a = i
      · have := h2 b hb.1 (by omega)
        rw [hb.2] at this
        simp at this; omega
      · have := h2 a ha.1 hai
        rw [ha.2] at this
        simp at this; omega
theorem top_one {l : List Int} (hne : l ≠ []) (hpos : 0 < Lib.maxOf l) (h : ¬ 1 < (placesTo l (Lib.maxOf l) l.length).length) : topGo l 0 (l.drop 0) = (placeL l (Lib.maxOf l), true) := by
  obtain ⟨hM, hmax⟩ := max_spec hne
  have hp := place_get l _ hM
  have hp0 := (place_nonneg l _).2 hM
  have hpl := (List.getElem?_eq_some_iff.1 hp).1
  have hone : ∀ k, k < l.length → l[k]? = some (Lib.maxOf l) → k = (placeL l (Lib.maxOf l)).toNat := by
    intro k hk hk2
    have h1 := places_mem.2 ⟨hk, hk2⟩
    have h2 := places_mem.2 ⟨hpl, hp⟩
    match hS : placesTo l (Lib.maxOf l) l.length, h with
    | [], _ => rw [hS] at h1; cases h1
    | [a], _ =>
      rw [hS] at h1 h2
      simp at h1 h2
      omega
    | a :: b :: r, h3 => exact absurd (by simp) h3
  have ht : topAt l (placeL l (Lib.maxOf l)).toNat (Lib.maxOf l) = true := topAt_iff.2 ⟨hpos, fun k hk hne2 => by
    obtain ⟨x, hx⟩ : ∃ x, l[k]? = some x := ⟨_, List.getElem?_eq_getElem hk⟩
    rw [hx]
    have h1 := hmax x (mem_at hx)
    have h2 : x ≠ Lib.maxOf l := fun e => hne2 (hone k hk (by rw [hx, e]))
    simp; omega⟩
  have := topGo_at hp ht (fun i m hi hm => by
    cases hb : topAt l i m with
    | false => rfl
    | true =>
      have h1 := (topAt_iff.1 hb).2 _ hpl (by omega)
      rw [hp] at h1
      have h2 := hmax m (mem_at hm)
      simp at h1; omega) (placeL l (Lib.maxOf l)).toNat 0 (by omega)
  rw [this, Int.toNat_of_nonneg hp0]
theorem alone_score_pos {l : List Int} (h : aloneL 3 l = true) : ∀ m ∈ l, 0 ≤ m ∧ m < 11 := by
  unfold aloneL checkL at h
  by_cases h0 : amongL 3 l < 1 ∨ 10 < amongL 3 l
  · rw [if_pos h0] at h; cases h
  · rw [if_neg h0] at h
    cases hf : fineL 3 l (amongL 3 l) with
    | false => rw [hf, if_pos rfl] at h; cases h
    | true =>
      unfold fineL at hf
      rw [if_pos rfl, Bool.and_eq_true] at hf
      intro m hm
      have := List.all_eq_true.1 hf.1 m hm
      simpa [inB] using this
end Go.Proofs.YtncdaicaljpgfaaGreat
