/- More laws about what layer 8 computes. Nothing of the program is named here. -/
import Derived.Test.YtnhfbabenifbkaaGreatDoorBPl2
set_option linter.unusedVariables false
namespace Go.Proofs.YtnhfbabenifbkaaGreatDoor

/-- From i on neighbours are in order. -/
def AdjUp (l : List Int) (i : Nat) : Prop := ∀ (j : Nat) (x y : Int), i ≤ j → l[j]? = some x → l[j + 1]? = some y → x ≤ y
theorem adj_start (l : List Int) {i : Nat} (h : l.length ≤ i + 1) : AdjUp l i := fun j x y hj _ hy => by
  have := (List.getElem?_eq_some_iff.1 hy).1; omega
theorem adj_step {l : List Int} {i : Nat} {x y : Int} (h : AdjUp l (i + 1)) (hx : l[i]? = some x) (hy : l[i + 1]? = some y) (hxy : x ≤ y) : AdjUp l i := fun j a b hj ha hb => by
  by_cases he : j = i
  · subst he; rw [hx] at ha; rw [hy] at hb; cases ha; cases hb; exact hxy
  · exact h j a b (by omega) ha hb
theorem adj_pw : ∀ (l : List Int), AdjUp l 0 → l.Pairwise (· ≤ ·)
  | [], _ => List.Pairwise.nil
  | [a], _ => by simp
  | a :: b :: r, h => by
    have hr := adj_pw (b :: r) (fun j x y hj hx hy => h (j + 1) x y (by omega) (by simpa using hx) (by simpa using hy))
    refine List.Pairwise.cons (fun c hc => ?_) hr
    have hab : a ≤ b := h 0 a b (by omega) rfl rfl
    rcases List.mem_cons.1 hc with rfl | hc
    · exact hab
    · exact Int.le_trans hab ((List.pairwise_cons.1 hr).1 c hc)
theorem adj_no {l : List Int} {i : Nat} {x y : Int} (hx : l[i]? = some x) (hy : l[i + 1]? = some y) (hxy : y < x) : ¬ l.Pairwise (· ≤ ·) := fun h => by
  have h2 : (l.take (i + 1 + 1)).Pairwise (· ≤ ·) := h.sublist (List.take_sublist _ _)
  rw [take_snoc hy, take_snoc hx, List.pairwise_append] at h2
  have := h2.2.2 x (by simp) y (by simp)
  omega
theorem pw_lt_iff (l : List Int) : l.Pairwise (· < ·) ↔ (l.Pairwise (· ≤ ·) ∧ l.Nodup) := by
  constructor
  · intro h
    exact ⟨h.imp (fun h => Int.le_of_lt h), h.imp (fun h => by omega)⟩
  · rintro ⟨h1, h2⟩
    exact (h1.and h2).imp (fun h => by omega)
def RangeTo (l : List Int) (hi : Int) (n : Nat) : Prop := ∀ m ∈ l.take n, 0 ≤ m ∧ m < hi
theorem range_zero (l : List Int) (hi : Int) : RangeTo l hi 0 := by simp [RangeTo]
theorem range_step {l : List Int} {hi x : Int} {n : Nat} (h : RangeTo l hi n) (hx : l[n]? = some x) (h1 : 0 ≤ x) (h2 : x < hi) : RangeTo l hi (n + 1) := by
  unfold RangeTo
  rw [take_snoc hx]
  intro m hm
  rcases List.mem_append.1 hm with hm | hm
  · exact h m hm
  · simp at hm; subst hm; exact ⟨h1, h2⟩
theorem range_all {l : List Int} {hi : Int} {n : Nat} (h : RangeTo l hi n) (hn : ¬ n < l.length) : l.all (inB 0 hi) = true := by
  unfold RangeTo at h
  rw [List.take_of_length_le (by omega)] at h
  exact List.all_eq_true.2 fun m hm => inB_t (h m hm).1 (h m hm).2
theorem fine_out {k : Int} {l : List Int} {c x : Int} {n : Nat} (h3 : k ≠ 3) (hx : l[n]? = some x) (h : ¬ (0 ≤ x ∧ x < c)) : fineL k l c = false := by
  unfold fineL
  rw [if_neg h3, all_no hx (inB_f h)]
  simp
theorem fine_one {l : List Int} {c : Int} (h : l.all (inB 0 c) = true) : fineL 1 l c = decide l.Nodup := by
  unfold fineL; rw [if_neg (by decide), if_pos rfl, h, Bool.true_and]
theorem fine_two {l : List Int} {c : Int} (h : l.all (inB 0 c) = true) (h2 : l.Pairwise (· ≤ ·)) : fineL 2 l c = decide l.Nodup := by
  unfold fineL; rw [if_neg (by decide), if_neg (by decide), if_pos rfl, h, Bool.true_and]
  exact decide_eq_decide.2 (by rw [pw_lt_iff]; exact ⟨fun h => h.2, fun h => ⟨h2, h⟩⟩)
theorem fine_two_no {l : List Int} {c : Int} (h2 : ¬ l.Pairwise (· ≤ ·)) : fineL 2 l c = false := by
  unfold fineL; rw [if_neg (by decide), if_neg (by decide), if_pos rfl, decide_eq_false, Bool.and_false]
  exact fun h => h2 ((pw_lt_iff l).1 h).1
theorem fine_three {l : List Int} {c : Int} (h : l.all (inB 0 11) = true) : fineL 3 l c = decide ((l.length : Int) = c) := by
  unfold fineL; rw [if_pos rfl, h, Bool.true_and]
theorem nodup_step {l : List Int} {n : Nat} {x : Int} (h : (l.take n).Nodup) (hx : l[n]? = some x) (hn : x ∉ l.take n) : (l.take (n + 1)).Nodup := by
  rw [take_snoc hx, List.nodup_append]
  refine ⟨h, by simp, fun a ha b hb e => ?_⟩
  simp at hb; subst hb; subst e; exact hn ha
theorem nodup_dup {l : List Int} {n : Nat} {x : Int} (hx : l[n]? = some x) (hn : x ∈ l.take n) : decide l.Nodup = false := decide_eq_false fun hd => by
  have h2 : (l.take (n + 1)).Nodup := hd.sublist (List.take_sublist _ _)
  rw [take_snoc hx, List.nodup_append] at h2
  exact h2.2.2 x hn x (by simp) rfl
theorem nodup_end {l : List Int} {n : Nat} (h : (l.take n).Nodup) (hn : ¬ n < l.length) : decide l.Nodup = true := by
  rw [List.take_of_length_le (by omega)] at h; exact decide_eq_true h
end Go.Proofs.YtnhfbabenifbkaaGreatDoor
