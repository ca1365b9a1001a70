/- Small laws on the sizes of what comes in. -/
import Derived.Test.YtefkhjbgkaknmaaDoorW2c
import Derived.Test.YtefkhjbgkaknmaaDoorW2d
import Derived.Test.YtefkhjbgkaknmaaDoorW3d
set_option linter.unusedVariables false
namespace Go.Proofs.YtefkhjbgkaknmaaDoor
open Go.RowKit

theorem rsame_eq (ao bo : Option Addr) (l : List (List UInt8)) (n : Nat) (hn : n = l.length) (cap cap' : Nat) (w : World) (ha : CellsAt w ao (l.map sv)) (hb : CellsAt w bo (l.map sv)) (hl : l.length ≤ 140737488351232) :
    Calls Tryd.prog 19 #[.slice ao n cap, .slice bo n cap'] w fun e w' => e = .returned (.bool true) ∧ ∃ n, w' = w.drewN n := by
  subst hn
  refine (rsame_walk ao bo l l cap cap' w ha hb hl hl).mono ?_
  rintro e w' ⟨he, hw⟩
  exact ⟨by rw [he]; simp, hw⟩
theorem long_count : ∀ (l : List (List UInt8)) (n : Int), 0 ≤ n → longGo l n ≤ 60000 → n + (l.length : Int) ≤ 60000 ∧ ∀ s ∈ l, (s.length : Int) ≤ 60000
  | [], n, _, h => ⟨by simpa [longGo] using h, by simp⟩
  | s :: r, n, h0, h => by
    rw [longGo] at h
    by_cases hc : n < 1000000
    · rw [if_pos hc] at h
      obtain ⟨h1, h2⟩ := long_count r _ (by omega) h
      refine ⟨by simp; omega, ?_⟩
      intro x hx
      rcases List.mem_cons.1 hx with rfl | hx
      · omega
      · exact h2 x hx
    · rw [if_neg hc] at h; omega
theorem great_count : ∀ (rows : List (List (List UInt8))) (n : Int), 0 ≤ n → greatGo rows n < 30000 → n + (rows.length : Int) ≤ 30000 ∧ ∀ r ∈ rows, longGo r 0 < 30000
  | [], n, _, h => ⟨by simp [greatGo] at h; simp; omega, by simp⟩
  | r :: rs, n, h0, h => by
    rw [greatGo] at h
    by_cases hc : n < 30000
    · rw [if_pos hc] at h
      have hge := long_ge r 0
      have hmono : ∀ (rs : List (List (List UInt8))) (n : Int), n ≤ greatGo rs n := by
        intro rs
        induction rs with
        | nil => intro n; simp [greatGo]
        | cons a t ih =>
          intro n
          rw [greatGo]
          by_cases h : n < 30000
          · rw [if_pos h]; have := ih (n + 1 + min (longGo a 0) 30000); have := long_ge a 0; omega
          · rw [if_neg h]; omega
      have h1 := great_count rs _ (by omega) h
      have h2 := hmono rs (n + 1 + min (longGo r 0) 30000)
      refine ⟨by simp; omega, ?_⟩
      intro x hx
      rcases List.mem_cons.1 hx with rfl | hx
      · omega
      · exact h1.2 x hx
    · rw [if_neg hc] at h; omega
theorem words_len (l : List UInt8) : (wordsL l).1.length ≤ l.length + 1 := by
  unfold wordsL
  by_cases h1 : 16384 < l.length
  · rw [if_pos h1]; simp
  · rw [if_neg h1]
    by_cases h2 : l.length = 0
    · rw [if_pos h2]; simp
    · rw [if_neg h2]
      by_cases h3 : (ptGo l []).all wordL = true
      · rw [if_pos h3]; exact pt_len l []
      · rw [if_neg h3]; simp
theorem lines_len (l : List UInt8) : (linesL l).1.length ≤ l.length := by
  unfold linesL
  by_cases h1 : 16384 < l.length ∨ 512 < feedsL l
  · rw [if_pos h1]; simp
  · rw [if_neg h1]
    by_cases h2 : 0 < l.length ∧ (l.getLast?.map UInt8.toNat) ≠ some 10
    · rw [if_pos h2]; simp
    · rw [if_neg h2]; show (lnGo l []).length ≤ _; rw [ln_len]; exact feeds_le l
end Go.Proofs.YtefkhjbgkaknmaaDoor
