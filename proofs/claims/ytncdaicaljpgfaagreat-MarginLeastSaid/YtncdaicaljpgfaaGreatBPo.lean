/- Gains laid into a list in falling order, as the law MarginLeast lays them. Nothing of the program is named here. -/
import Derived.Test.YtncdaicaljpgfaaGreatBPn
set_option linter.unusedVariables false
namespace Go.Proofs.YtncdaicaljpgfaaGreat
/-- Where a gain is laid in: from k downwards, behind the first that is not less. -/
def posD (l : List Int) (g : Int) : Nat → Nat
  | 0 => 0
  | k + 1 => if l.getD k 0 < g then posD l g k else k + 1
theorem posD_le (l : List Int) (g : Int) : ∀ k, posD l g k ≤ k
  | 0 => Nat.le_refl _
  | k + 1 => by
    unfold posD
    split
    · have := posD_le l g k; omega
    · exact Nat.le_refl _
theorem posD_gt (l : List Int) (g : Int) : ∀ k i, posD l g k ≤ i → i < k → l.getD i 0 < g
  | 0, i, _, h => by omega
  | k + 1, i, h1, h2 => by
    unfold posD at h1
    split at h1
    · rename_i h
      by_cases e : i = k
      · subst e; exact h
      · exact posD_gt l g k i h1 (by omega)
    · omega
theorem posD_at (l : List Int) (g : Int) : ∀ k, 0 < posD l g k → g ≤ l.getD (posD l g k - 1) 0
  | 0, h => by simp [posD] at h
  | k + 1, h => by
    unfold posD at h ⊢
    split
    · rename_i hc
      rw [if_pos hc] at h
      exact posD_at l g k h
    · rename_i hc
      rw [Nat.add_sub_cancel]; omega
def insD (l : List Int) (g : Int) : List Int := l.take (posD l g l.length) ++ g :: l.drop (posD l g l.length)
theorem insD_perm (l : List Int) (g : Int) : (insD l g).Perm (g :: l) := by
  unfold insD
  refine List.perm_middle.trans ?_
  rw [List.take_append_drop]
theorem getD_of {l : List Int} {i : Nat} {x : Int} (h : l[i]? = some x) : l.getD i 0 = x := by simp [h]
theorem insD_sorted {l : List Int} {g : Int} (h : l.Pairwise (fun x y => y ≤ x)) : (insD l g).Pairwise (fun x y => y ≤ x) := by
  have hle := posD_le l g l.length
  have hg := posD_gt l g l.length
  have ha := posD_at l g l.length
  unfold insD
  generalize posD l g l.length = p at hle hg ha
  have hsplit : (l.take p ++ l.drop p).Pairwise (fun x y => y ≤ x) := by rw [List.take_append_drop]; exact h
  rw [List.pairwise_append] at hsplit ⊢
  obtain ⟨h1, h2, h3⟩ := hsplit
  have hd : ∀ y ∈ l.drop p, y ≤ g := fun y hy => by
    obtain ⟨i, hi⟩ := List.mem_iff_getElem?.1 hy
    rw [List.getElem?_drop] at hi
    have hlt := (List.getElem?_eq_some_iff.1 hi).1
    have := hg (p + i) (by omega) hlt
    rw [getD_of hi] at this
    omega
  have ht : ∀ x ∈ l.take p, g ≤ x := fun x hx => by
    obtain ⟨i, hi⟩ := List.mem_iff_getElem?.1 hx
    rw [List.getElem?_take] at hi
    split at hi
    · rename_i hip
      have hgp := ha (by omega)
      have hq : p - 1 < l.length := by omega
      have hqe : l[p - 1]? = some l[p - 1] := List.getElem?_eq_getElem hq
      rw [getD_of hqe] at hgp
      by_cases e : i = p - 1
      · subst e; rw [hqe] at hi; cases hi; exact hgp
      · have hil := (List.getElem?_eq_some_iff.1 hi)
        have := (List.pairwise_iff_getElem.1 h) i (p - 1) hil.1 hq (by omega)
        rw [hil.2] at this
        omega
    · cases hi
  refine ⟨h1, List.pairwise_cons.2 ⟨hd, h2⟩, fun x hx y hy => ?_⟩
  rcases List.mem_cons.1 hy with rfl | hy
  · exact ht x hx
  · exact h3 x hx y hy
theorem insD_sum (l : List Int) (g : Int) : (insD l g).sum = l.sum + g := by
  have key : ∀ {a b : List Int}, a.Perm b → a.sum = b.sum := fun h => by
    induction h with
    | nil => rfl
    | cons x _ ih => rw [List.sum_cons, List.sum_cons, ih]
    | swap x y l => simp only [List.sum_cons]; omega
    | trans _ _ h1 h2 => exact h1.trans h2
  rw [key (insD_perm l g), List.sum_cons]; omega
/-- A gain laid in so many times. -/
def insN (l : List Int) (g : Int) : Nat → List Int
  | 0 => l
  | k + 1 => insD (insN l g k) g
theorem insN_perm (l : List Int) (g : Int) : ∀ k, (insN l g k).Perm (List.replicate k g ++ l)
  | 0 => .refl _
  | k + 1 => by
    refine (insD_perm _ _).trans ?_
    rw [List.replicate_succ, List.cons_append]
    exact (insN_perm l g k).cons g
theorem insN_sorted {l : List Int} {g : Int} (h : l.Pairwise (fun x y => y ≤ x)) : ∀ k, (insN l g k).Pairwise (fun x y => y ≤ x)
  | 0 => h
  | k + 1 => insD_sorted (insN_sorted h k)
/-- All rows laid in. -/
def insAll : List Int → List (Int × Int) → List Int
  | l, [] => l
  | l, (g, c) :: r => insAll (insN l g c.toNat) r
theorem insAll_perm : ∀ (r : List (Int × Int)) (l : List Int), (insAll l r).Perm (expand r ++ l)
  | [], l => .refl _
  | (g, c) :: r, l => by
    refine (insAll_perm r _).trans ?_
    rw [show expand ((g, c) :: r) = List.replicate c.toNat g ++ expand r from rfl, List.append_assoc]
    refine ((insN_perm l g c.toNat).append_left (expand r)).trans ?_
    rw [← List.append_assoc, ← List.append_assoc]
    exact (List.perm_append_comm).append_right l
theorem insAll_sorted : ∀ (r : List (Int × Int)) {l : List Int}, l.Pairwise (fun x y => y ≤ x) → (insAll l r).Pairwise (fun x y => y ≤ x)
  | [], l, h => h
  | (g, c) :: r, l, h => insAll_sorted r (insN_sorted h c.toNat)
theorem expand_perm {a b : List (Int × Int)} (h : a.Perm b) : (expand a).Perm (expand b) := by
  induction h with
  | nil => exact .refl _
  | cons x _ ih => obtain ⟨g, c⟩ := x; exact ih.append_left _
  | swap x y l =>
    obtain ⟨g, c⟩ := x; obtain ⟨g', c'⟩ := y
    unfold expand expand
    rw [← List.append_assoc, ← List.append_assoc]
    exact List.perm_append_comm.append_right _
  | trans _ _ ih1 ih2 => exact ih1.trans ih2
theorem expand_sorted : ∀ {l : List (Int × Int)}, l.Pairwise (fun x y => y.1 ≤ x.1) → (expand l).Pairwise (fun x y => y ≤ x)
  | [], _ => List.Pairwise.nil
  | (g, c) :: r, h => by
    rw [List.pairwise_cons] at h
    unfold expand
    rw [List.pairwise_append]
    refine ⟨List.pairwise_replicate.2 (.inr (Int.le_refl _)), expand_sorted h.2, fun x hx y hy => ?_⟩
    obtain ⟨p, hp, rfl⟩ := expand_mem hy
    rw [List.eq_of_mem_replicate hx]
    exact h.1 p hp
/-- What the law lays in is what the sorted rows are, ballot by ballot. -/
theorem insAll_expand {r m : List (Int × Int)} (hp : r.Perm m) (hm : m.Pairwise (fun x y => y.1 ≤ x.1)) : insAll [] r = expand m := by
  have h1 : (insAll [] r).Perm (expand m) := by
    have h2 := insAll_perm r []
    rw [List.append_nil] at h2
    exact h2.trans (expand_perm hp)
  exact List.Perm.eq_of_pairwise (fun a b _ _ h1 h2 => Int.le_antisymm h2 h1) (insAll_sorted r List.Pairwise.nil) (expand_sorted hm) h1
end Go.Proofs.YtncdaicaljpgfaaGreat
