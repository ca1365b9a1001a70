/- Laws about what layer 8 computes. Nothing of the program is named here. -/
import Derived.Test.YtnhfbabenifbkaaGreatDoorBPl
set_option linter.unusedVariables false
namespace Go.Proofs.YtnhfbabenifbkaaGreatDoor

theorem take_snoc {α : Type} {l : List α} {k : Nat} {x : α} (h : l[k]? = some x) : l.take (k + 1) = l.take k ++ [x] := by rw [List.take_add_one, h]; rfl
theorem drop_cons' {α : Type} {l : List α} {k : Nat} {x : α} (h : l[k]? = some x) : l.drop k = x :: l.drop (k + 1) := by
  obtain ⟨h1, rfl⟩ := List.getElem?_eq_some_iff.1 h
  exact List.drop_eq_getElem_cons h1
theorem mem_at {α : Type} {l : List α} {k : Nat} {x : α} (h : l[k]? = some x) : x ∈ l := List.mem_of_getElem? h
/-- The place of a number, counted from k on. -/
def placeGo (l : List Int) (x : Int) (k : Nat) : Int := if placeL (l.drop k) x < 0 then -1 else placeL (l.drop k) x + k
theorem place_ge : ∀ (l : List Int) (x : Int), -1 ≤ placeL l x
  | [], x => by simp [placeL]
  | a :: r, x => by
    rw [placeL]
    by_cases h : a = x
    · rw [if_pos h]; omega
    · rw [if_neg h]
      by_cases h2 : placeL r x < 0
      · rw [if_pos h2]; omega
      · rw [if_neg h2]; omega
theorem place_start (l : List Int) (x : Int) : placeL l x = placeGo l x 0 := by
  have := place_ge l x
  unfold placeGo
  rw [List.drop_zero]
  by_cases h : placeL l x < 0
  · rw [if_pos h]; omega
  · rw [if_neg h]; omega
theorem place_hit {l : List Int} {x a : Int} {k : Nat} (h : l[k]? = some a) (e : a = x) : placeGo l x k = k := by
  unfold placeGo
  rw [drop_cons' h, placeL, if_pos e, if_neg (by omega)]; omega
theorem place_miss {l : List Int} {x a : Int} {k : Nat} (h : l[k]? = some a) (e : a ≠ x) : placeGo l x k = placeGo l x (k + 1) := by
  unfold placeGo
  rw [drop_cons' h, placeL, if_neg e]
  by_cases h2 : placeL (l.drop (k + 1)) x < 0
  · rw [if_pos h2, if_pos h2, if_pos (by omega)]
  · rw [if_neg h2, if_neg h2, if_neg (by omega)]; omega
theorem place_end {l : List Int} {x : Int} {k : Nat} (h : ¬ k < l.length) : placeGo l x k = -1 := by
  unfold placeGo
  rw [List.drop_of_length_le (by omega), placeL, if_pos (by omega)]
theorem place_nonneg : ∀ (l : List Int) (x : Int), 0 ≤ placeL l x ↔ x ∈ l
  | [], x => by simp [placeL]
  | a :: r, x => by
    rw [placeL, List.mem_cons]
    by_cases h : a = x
    · rw [if_pos h]; simp [h]
    · rw [if_neg h]
      have ih := place_nonneg r x
      by_cases h2 : placeL r x < 0
      · rw [if_pos h2]
        constructor
        · intro h3; omega
        · rintro (h3 | h3)
          · exact absurd h3.symm h
          · have := ih.2 h3; omega
      · rw [if_neg h2]
        constructor
        · intro _; exact .inr (ih.1 (by omega))
        · intro _; omega
theorem place_get : ∀ (l : List Int) (x : Int), x ∈ l → l[(placeL l x).toNat]? = some x
  | [], x, h => by cases h
  | a :: r, x, h => by
    rw [placeL]
    by_cases e : a = x
    · rw [if_pos e]; simp [e]
    · rw [if_neg e]
      have hr : x ∈ r := by
        rcases List.mem_cons.1 h with h | h
        · exact absurd h.symm e
        · exact h
      have h0 := (place_nonneg r x).2 hr
      rw [if_neg (by omega), show (placeL r x + 1).toNat = (placeL r x).toNat + 1 by omega, List.getElem?_cons_succ]
      exact place_get r x hr
theorem place_lt (l : List Int) (x : Int) : placeL l x < l.length := by
  rcases Decidable.em (x ∈ l) with h | h
  · have := (List.getElem?_eq_some_iff.1 (place_get l x h)).1
    have := (place_nonneg l x).2 h
    omega
  · have := mt (place_nonneg l x).1 h; omega

/- Validity, read from the front. -/
theorem all_no {l : List Int} {p : Int → Bool} {x : Int} {k : Nat} (h : l[k]? = some x) (hp : p x = false) : l.all p = false := by
  cases hb : l.all p with
  | false => rfl
  | true => have := List.all_eq_true.1 hb x (mem_at h); rw [hp] at this; cases this
theorem inB_t {lo hi m : Int} (h : lo ≤ m) (h2 : m < hi) : inB lo hi m = true := decide_eq_true ⟨h, h2⟩
theorem inB_f {lo hi m : Int} (h : ¬ (lo ≤ m ∧ m < hi)) : inB lo hi m = false := decide_eq_false h
def Fine1 (l : List Int) (c : Int) (k : Nat) : Prop := (∀ m ∈ l.take k, 0 ≤ m ∧ m < c) ∧ (l.take k).Nodup
theorem fine1_zero (l : List Int) (c : Int) : Fine1 l c 0 := ⟨by simp, by simp⟩
theorem fine1_step {l : List Int} {c x : Int} {k : Nat} (h : Fine1 l c k) (hx : l[k]? = some x) (h1 : 0 ≤ x) (h2 : x < c) (hp : placeL (l.take k) x < 0) : Fine1 l c (k + 1) := by
  have hn : x ∉ l.take k := fun h => by have := (place_nonneg _ _).2 h; omega
  unfold Fine1
  rw [take_snoc hx]
  refine ⟨fun m hm => ?_, ?_⟩
  · rcases List.mem_append.1 hm with hm | hm
    · exact h.1 m hm
    · simp at hm; subst hm; exact ⟨h1, h2⟩
  · rw [List.nodup_append]
    refine ⟨h.2, by simp, fun a ha b hb e => ?_⟩
    simp at hb; subst hb; subst e; exact hn ha
theorem fine1_ok {l : List Int} {c : Int} {k : Nat} (h : Fine1 l c k) (hk : ¬ k < l.length) : fineL 1 l c = true := by
  unfold Fine1 at h
  rw [List.take_of_length_le (by omega)] at h
  unfold fineL
  rw [if_neg (by decide), if_pos rfl, Bool.and_eq_true]
  exact ⟨List.all_eq_true.2 fun m hm => inB_t (h.1 m hm).1 (h.1 m hm).2, decide_eq_true h.2⟩
theorem fine1_out {l : List Int} {c x : Int} {k : Nat} (hx : l[k]? = some x) (h : ¬ (0 ≤ x ∧ x < c)) : fineL 1 l c = false := by
  unfold fineL; rw [if_neg (by decide), if_pos rfl, all_no hx (inB_f h)]; rfl
theorem fine1_dup {l : List Int} {c x : Int} {k : Nat} (hx : l[k]? = some x) (h : 0 ≤ placeL (l.take k) x) : fineL 1 l c = false := by
  have hn := (place_nonneg _ _).1 h
  unfold fineL
  rw [if_neg (by decide), if_pos rfl, decide_eq_false, Bool.and_false]
  intro hd
  have h2 : (l.take (k + 1)).Nodup := hd.sublist (List.take_sublist _ _)
  rw [take_snoc hx, List.nodup_append] at h2
  exact h2.2.2 x hn x (by simp) rfl
def Fine2 (l : List Int) (c : Int) (k : Nat) : Prop := (∀ m ∈ l.take k, 0 ≤ m ∧ m < c) ∧ (l.take k).Pairwise (· < ·)
theorem fine2_zero (l : List Int) (c : Int) : Fine2 l c 0 := ⟨by simp, by simp⟩
/-- In a rising list the last element is the greatest. -/
theorem rise_last {l : List Int} {k : Nat} {y m : Int} (h : (l.take (k + 1)).Pairwise (· < ·)) (hy : l[k]? = some y) (hm : m ∈ l.take (k + 1)) : m ≤ y := by
  rw [take_snoc hy, List.pairwise_append] at h
  rw [take_snoc hy] at hm
  rcases List.mem_append.1 hm with hm | hm
  · exact Int.le_of_lt (h.2.2 m hm y (by simp))
  · simp at hm; omega
theorem fine2_step {l : List Int} {c x : Int} {k : Nat} (h : Fine2 l c k) (hx : l[k]? = some x) (h1 : 0 ≤ x) (h2 : x < c) (hr : ∀ m ∈ l.take k, m < x) : Fine2 l c (k + 1) := by
  unfold Fine2
  rw [take_snoc hx]
  refine ⟨fun m hm => ?_, ?_⟩
  · rcases List.mem_append.1 hm with hm | hm
    · exact h.1 m hm
    · simp at hm; subst hm; exact ⟨h1, h2⟩
  · rw [List.pairwise_append]
    exact ⟨h.2, by simp, fun a ha b hb => by simp at hb; subst hb; exact hr a ha⟩
theorem fine2_above {l : List Int} {c y x : Int} {k : Nat} (h : Fine2 l c (k + 1)) (hy : l[k]? = some y) (hx : y < x) : ∀ m ∈ l.take (k + 1), m < x := fun m hm => by
  have := rise_last h.2 hy hm; omega
theorem fine2_none {l : List Int} {x : Int} {k : Nat} (h : ∀ m ∈ l.take k, m < x) : placeL (l.take k) x < 0 := by
  rcases Int.lt_or_le (placeL (l.take k) x) 0 with h1 | h1
  · exact h1
  · have := h x ((place_nonneg _ _).1 h1); omega
theorem fine2_ok {l : List Int} {c : Int} {k : Nat} (h : Fine2 l c k) (hk : ¬ k < l.length) : fineL 2 l c = true := by
  unfold Fine2 at h
  rw [List.take_of_length_le (by omega)] at h
  unfold fineL
  rw [if_neg (by decide), if_neg (by decide), if_pos rfl, Bool.and_eq_true]
  exact ⟨List.all_eq_true.2 fun m hm => inB_t (h.1 m hm).1 (h.1 m hm).2, decide_eq_true h.2⟩
theorem fine2_out {l : List Int} {c x : Int} {k : Nat} (hx : l[k]? = some x) (h : ¬ (0 ≤ x ∧ x < c)) : fineL 2 l c = false := by
  unfold fineL; rw [if_neg (by decide), if_neg (by decide), if_pos rfl, all_no hx (inB_f h)]; rfl
theorem fine2_low {l : List Int} {c x y : Int} {k : Nat} (hy : l[k]? = some y) (hx : l[k + 1]? = some x) (h : x ≤ y) : fineL 2 l c = false := by
  unfold fineL
  rw [if_neg (by decide), if_neg (by decide), if_pos rfl, decide_eq_false, Bool.and_false]
  intro hd
  have h2 : (l.take (k + 1 + 1)).Pairwise (· < ·) := hd.sublist (List.take_sublist _ _)
  rw [take_snoc hx, take_snoc hy, List.pairwise_append] at h2
  have := h2.2.2 y (by simp) x (by simp)
  omega
def Fine3 (l : List Int) (k : Nat) : Prop := ∀ m ∈ l.take k, 0 ≤ m ∧ m < 11
theorem fine3_zero (l : List Int) : Fine3 l 0 := by simp [Fine3]
theorem fine3_step {l : List Int} {x : Int} {k : Nat} (h : Fine3 l k) (hx : l[k]? = some x) (h1 : 0 ≤ x) (h2 : x < 11) : Fine3 l (k + 1) := by
  unfold Fine3
  rw [take_snoc hx]
  intro m hm
  rcases List.mem_append.1 hm with hm | hm
  · exact h m hm
  · simp at hm; subst hm; exact ⟨h1, h2⟩
theorem fine3_ok {l : List Int} {c : Int} {k : Nat} (h : Fine3 l k) (hk : ¬ k < l.length) : fineL 3 l c = decide ((l.length : Int) = c) := by
  unfold Fine3 at h
  rw [List.take_of_length_le (by omega)] at h
  unfold fineL
  rw [if_pos rfl, show l.all (inB 0 11) = true from List.all_eq_true.2 fun m hm => inB_t (h m hm).1 (h m hm).2, Bool.true_and]
theorem fine3_out {l : List Int} {c x : Int} {k : Nat} (hx : l[k]? = some x) (h : ¬ (0 ≤ x ∧ x < 11)) : fineL 3 l c = false := by
  unfold fineL; rw [if_pos rfl, all_no hx (inB_f h)]; rfl
theorem fine_else {k : Int} {l : List Int} {c : Int} (h1 : k ≠ 1) (h2 : k ≠ 2) (h3 : k ≠ 3) : fineL k l c = false := by
  unfold fineL; rw [if_neg h3, if_neg h1, if_neg h2]

/- The favorite by scores. -/
def topTo (l : List Int) (i : Nat) (m : Int) (K : Nat) : Bool := decide (0 < m) && (List.range K).all fun k => decide (k = i) || decide (l[k]?.getD 0 < m)
theorem top_to (l : List Int) (i : Nat) (m : Int) : topAt l i m = topTo l i m l.length := rfl
theorem top_zero (l : List Int) (i : Nat) (m : Int) : topTo l i m 0 = decide (0 < m) := by simp [topTo]
theorem top_succ (l : List Int) (i : Nat) (m : Int) (K : Nat) : topTo l i m (K + 1) = (topTo l i m K && (decide (K = i) || decide (l[K]?.getD 0 < m))) := by
  unfold topTo; rw [List.range_succ, List.all_append]; simp [Bool.and_assoc]
theorem top_own {l : List Int} {i : Nat} {m : Int} {b : Bool} (h : topTo l i m i = b) : topTo l i m (i + 1) = b := by rw [top_succ, h]; simp
theorem top_other {l : List Int} {i K : Nat} {m y : Int} (h : topTo l i m K = true) (hy : l[K]? = some y) (hne : K ≠ i) : topTo l i m (K + 1) = decide (y < m) := by rw [top_succ, h, hy]; simp [hne]
theorem top_false {l : List Int} {i K : Nat} {m : Int} (h : topTo l i m K = false) : topTo l i m (K + 1) = false := by rw [top_succ, h]; rfl
theorem topGo_yes {l : List Int} {i : Nat} {m : Int} (hm : l[i]? = some m) (h : topTo l i m l.length = true) : topGo l i (l.drop i) = ((i : Int), true) := by
  rw [drop_cons' hm, topGo, top_to, h, if_pos rfl]
theorem topGo_no {l : List Int} {i : Nat} {m : Int} (hm : l[i]? = some m) (h : topTo l i m l.length = false) : topGo l i (l.drop i) = topGo l (i + 1) (l.drop (i + 1)) := by
  rw [drop_cons' hm, topGo, top_to, h, if_neg (by simp)]
theorem topGo_end {l : List Int} {i : Nat} (h : ¬ i < l.length) : topGo l i (l.drop i) = (0, false) := by
  rw [List.drop_of_length_le (by omega), topGo]
theorem alone_of {k : Int} {l : List Int} (h : checkL k l (amongL k l) = 0) : aloneL k l = true := by unfold aloneL; rw [h]; rfl
theorem alone_kind {k : Int} {l : List Int} (h : checkL k l (amongL k l) = 0) : k = 1 ∨ k = 2 ∨ k = 3 := by
  unfold checkL at h
  by_cases h0 : amongL k l < 1 ∨ 10 < amongL k l
  · rw [if_pos h0] at h; cases h
  · rw [if_neg h0] at h
    by_cases h1 : fineL k l (amongL k l) = false
    · rw [if_pos h1] at h; cases h
    · unfold fineL at h1
      by_cases h3 : k = 3
      · exact .inr (.inr h3)
      · by_cases h2 : k = 2
        · exact .inr (.inl h2)
        · by_cases h5 : k = 1
          · exact .inl h5
          · rw [if_neg h3, if_neg h5, if_neg h2] at h1; exact absurd rfl h1
theorem first_one {l : List Int} {x : Int} (ha : aloneL 1 l = true) (hx : l[0]? = some x) : firstL 1 l = (x, true) := by
  unfold firstL
  rw [if_neg (by rw [ha]; simp; rintro rfl; simp at hx), if_pos (.inl rfl), hx]; rfl
theorem first_mark {l : List Int} {x : Int} (ha : aloneL 2 l = true) (hx : l[0]? = some x) (h1 : l.length = 1) : firstL 2 l = (x, true) := by
  unfold firstL
  rw [if_neg (by rw [ha]; simp; rintro rfl; simp at hx), if_pos (.inr ⟨rfl, h1⟩), hx]; rfl
theorem first_marks {l : List Int} {x : Int} (ha : aloneL 2 l = true) (hx : l[0]? = some x) (h1 : l.length ≠ 1) : firstL 2 l = (0, false) := by
  unfold firstL
  rw [if_neg (by rw [ha]; simp; rintro rfl; simp at hx), if_neg (by simp [h1]), if_pos rfl]
theorem first_score {l : List Int} {x : Int} (ha : aloneL 3 l = true) (hx : l[0]? = some x) : firstL 3 l = topGo l 0 (l.drop 0) := by
  unfold firstL
  rw [if_neg (by rw [ha]; simp; rintro rfl; simp at hx), if_neg (by simp), if_neg (by simp), List.drop_zero]
end Go.Proofs.YtnhfbabenifbkaaGreatDoor
