/- The favorite by scores, as the greatest mark that stands alone. Nothing of the program is named here. -/
import Derived.Test.YtnhfbabenifbkaaGreatDoorBPl3
import Derived.Lib.Slices
set_option linter.unusedVariables false
namespace Go.Proofs.YtnhfbabenifbkaaGreatDoor

theorem fold_max : ∀ (l : List Int) (a : Int), (l.foldl max a = a ∨ l.foldl max a ∈ l) ∧ a ≤ l.foldl max a ∧ ∀ m ∈ l, m ≤ l.foldl max a
  | [], a => ⟨.inl rfl, Int.le_refl _, by simp⟩
  | b :: r, a => by
    rw [List.foldl_cons]
    obtain ⟨h1, h2, h3⟩ := fold_max r (max a b)
    refine ⟨?_, by omega, fun m hm => ?_⟩
    · rcases h1 with h1 | h1
      · rw [h1]
        by_cases h : a ≤ b
        · exact .inr (by rw [Int.max_eq_right h]; simp)
        · exact .inl (Int.max_eq_left (by omega))
      · exact .inr (List.mem_cons_of_mem _ h1)
    · rcases List.mem_cons.1 hm with rfl | hm
      · omega
      · exact h3 m hm
theorem max_spec {l : List Int} (h : l ≠ []) : Lib.maxOf l ∈ l ∧ ∀ m ∈ l, m ≤ Lib.maxOf l := by
  cases l with
  | nil => exact absurd rfl h
  | cons a r =>
    have hm : Lib.maxOf (a :: r) = (a :: r).foldl max a := rfl
    obtain ⟨h1, h2, h3⟩ := fold_max (a :: r) a
    rw [hm]
    refine ⟨?_, h3⟩
    rcases h1 with h1 | h1
    · rw [h1]; simp
    · exact h1
/-- The places below n at which M stands. -/
def placesTo (l : List Int) (M : Int) (n : Nat) : List Nat := (List.range n).filter fun k => decide (l[k]? = some M)
theorem places_hit {l : List Int} {M x : Int} {n : Nat} (h : l[n]? = some x) (e : x = M) : (placesTo l M (n + 1)).length = (placesTo l M n).length + 1 := by
  unfold placesTo
  rw [List.range_succ, List.filter_append, List.length_append]
  subst e
  simp [h]
theorem places_miss {l : List Int} {M x : Int} {n : Nat} (h : l[n]? = some x) (e : x ≠ M) : (placesTo l M (n + 1)).length = (placesTo l M n).length := by
  unfold placesTo
  rw [List.range_succ, List.filter_append, List.length_append]
  simp [h, e]
theorem places_le (l : List Int) (M : Int) (n : Nat) : (placesTo l M n).length ≤ n := by
  unfold placesTo
  exact Nat.le_trans (List.length_filter_le _ _) (by simp)
theorem places_mem {l : List Int} {M : Int} {n k : Nat} : k ∈ placesTo l M n ↔ k < n ∧ l[k]? = some M := by
  unfold placesTo; simp
theorem places_nodup (l : List Int) (M : Int) (n : Nat) : (placesTo l M n).Nodup := List.Nodup.sublist List.filter_sublist List.nodup_range
theorem topAt_iff {l : List Int} {i : Nat} {m : Int} : topAt l i m = true ↔ 0 < m ∧ ∀ k, k < l.length → k ≠ i → l[k]?.getD 0 < m := by
  unfold topAt
  rw [Bool.and_eq_true, decide_eq_true_eq, List.all_eq_true]
  constructor
  · rintro ⟨h1, h2⟩
    refine ⟨h1, fun k hk hne => ?_⟩
    have := h2 k (by simpa using hk)
    simpa [hne] using this
  · rintro ⟨h1, h2⟩
    refine ⟨h1, fun k hk => ?_⟩
    by_cases hne : k = i
    · simp [hne]
    · simp [hne, h2 k (by simpa using hk) hne]
theorem topGo_none {l : List Int} (h : ∀ (i : Nat) (m : Int), l[i]? = some m → topAt l i m = false) : ∀ (d i : Nat), i + d = l.length → topGo l i (l.drop i) = (0, false)
  | 0, i, hi => topGo_end (by omega)
  | d + 1, i, hi => by
    obtain ⟨m, hm⟩ : ∃ m, l[i]? = some m := ⟨_, List.getElem?_eq_getElem (by omega)⟩
    rw [topGo_no hm (h i m hm)]
    exact topGo_none h d (i + 1) (by omega)
theorem topGo_at {l : List Int} {p : Nat} {M : Int} (hp : l[p]? = some M) (ht : topAt l p M = true) (h : ∀ (i : Nat) (m : Int), i < p → l[i]? = some m → topAt l i m = false) : ∀ (d i : Nat), i + d = p → topGo l i (l.drop i) = ((p : Int), true)
  | 0, i, hi => by
    obtain rfl : i = p := by omega
    exact topGo_yes hp ht
  | d + 1, i, hi => by
    have hl := (List.getElem?_eq_some_iff.1 hp).1
    obtain ⟨m, hm⟩ : ∃ m, l[i]? = some m := ⟨_, List.getElem?_eq_getElem (by omega)⟩
    rw [topGo_no hm (h i m (by omega) hm)]
    exact topGo_at hp ht h d (i + 1) (by omega)
theorem top_low {l : List Int} (hne : l ≠ []) (h : Lib.maxOf l ≤ 0) : topGo l 0 (l.drop 0) = (0, false) := by
  refine topGo_none (fun i m hm => ?_) l.length 0 (by omega)
  cases hb : topAt l i m with
  | false => rfl
  | true => have := (topAt_iff.1 hb).1; have := (max_spec hne).2 m (mem_at hm); omega
theorem top_two {l : List Int} (hne : l ≠ []) (h : 1 < (placesTo l (Lib.maxOf l) l.length).length) : topGo l 0 (l.drop 0) = (0, false) := by
  refine topGo_none (fun i m hm => ?_) l.length 0 (by omega)
  cases hb : topAt l i m with
  | false => rfl
  | true =>
    obtain ⟨h1, h2⟩ := topAt_iff.1 hb
    have hn := places_nodup l (Lib.maxOf l) l.length
    have hle := (max_spec hne).2 m (mem_at hm)
    match hS : placesTo l (Lib.maxOf l) l.length, h with
    | a :: b :: r, _ =>
      rw [hS] at hn
      have hab : a ≠ b := by
        intro e
        have := (List.nodup_cons.1 hn).1
        rw [e] at this; simp at this
      have ha := places_mem.1 (show a ∈ placesTo l (Lib.maxOf l) l.length by rw [hS]; simp)
      have hb := places_mem.1 (show b ∈ placesTo l (Lib.maxOf l) l.length by rw [hS]; simp)
      by_cases hai : a = i
      · have := h2 b hb.1 (by omega)
        rw [hb.2] at this
        simp at this; omega
      · have := h2 a ha.1 hai
        rw [ha.2] at this
        simp at this; omega
theorem top_one {l : List Int} (hne : l ≠ []) (hpos : 0 < Lib.maxOf l) (h : ¬ 1 < (placesTo l (Lib.maxOf l) l.length).length) : topGo l 0 (l.drop 0) = (placeL l (Lib.maxOf l), true) := by
  obtain ⟨hM, hmax⟩ := max_spec hne
  have hp := place_get l _ hM
  have hp0 := (place_nonneg l _).2 hM
  have hpl := (List.getElem?_eq_some_iff.1 hp).1
  have hone : ∀ k, k < l.length → l[k]? = some (Lib.maxOf l) → k = (placeL l (Lib.maxOf l)).toNat := by
    intro k hk hk2
    have h1 := places_mem.2 ⟨hk, hk2⟩
    have h2 := places_mem.2 ⟨hpl, hp⟩
    match hS : placesTo l (Lib.maxOf l) l.length, h with
    | [], _ => rw [hS] at h1; cases h1
    | [a], _ =>
      rw [hS] at h1 h2
      simp at h1 h2
      omega
    | a :: b :: r, h3 => exact absurd (by simp) h3
  have ht : topAt l (placeL l (Lib.maxOf l)).toNat (Lib.maxOf l) = true := topAt_iff.2 ⟨hpos, fun k hk hne2 => by
    obtain ⟨x, hx⟩ : ∃ x, l[k]? = some x := ⟨_, List.getElem?_eq_getElem hk⟩
    rw [hx]
    have h1 := hmax x (mem_at hx)
    have h2 : x ≠ Lib.maxOf l := fun e => hne2 (hone k hk (by rw [hx, e]))
    simp; omega⟩
  have := topGo_at hp ht (fun i m hi hm => by
    cases hb : topAt l i m with
    | false => rfl
    | true =>
      have h1 := (topAt_iff.1 hb).2 _ hpl (by omega)
      rw [hp] at h1
      have h2 := hmax m (mem_at hm)
      simp at h1; omega) (placeL l (Lib.maxOf l)).toNat 0 (by omega)
  rw [this, Int.toNat_of_nonneg hp0]
theorem alone_score_pos {l : List Int} (h : aloneL 3 l = true) : ∀ m ∈ l, 0 ≤ m ∧ m < 11 := by
  unfold aloneL checkL at h
  by_cases h0 : amongL 3 l < 1 ∨ 10 < amongL 3 l
  · rw [if_pos h0] at h; cases h
  · rw [if_neg h0] at h
    cases hf : fineL 3 l (amongL 3 l) with
    | false => rw [hf, if_pos rfl] at h; cases h
    | true =>
      unfold fineL at hf
      rw [if_pos rfl, Bool.and_eq_true] at hf
      intro m hm
      have := List.all_eq_true.1 hf.1 m hm
      simpa [inB] using this
end Go.Proofs.YtnhfbabenifbkaaGreatDoor
