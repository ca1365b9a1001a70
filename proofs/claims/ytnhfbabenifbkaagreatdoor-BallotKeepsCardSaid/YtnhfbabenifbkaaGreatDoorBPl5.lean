/- Ballots as texts. Nothing of the program is named here. -/
import Derived.Test.YtnhfbabenifbkaaGreatDoorBPl3
import Derived.Lib.ItoaNum
set_option linter.unusedVariables false
namespace Go.Proofs.YtnhfbabenifbkaaGreatDoor
/-- The decimal digits of a number below 100. -/
def dig (n : Nat) : List UInt8 := if n < 10 then [UInt8.ofNat (48 + n)] else [UInt8.ofNat (48 + n / 10), UInt8.ofNat (48 + n % 10)]
theorem dig_dec {n : Nat} (h : n < 100) : Lib.decDigits n = dig n := by
  rw [Lib.decDigits, dig]
  by_cases h1 : n < 10
  · rw [dif_pos h1, if_pos h1]
  · rw [dif_neg h1, if_neg h1, Lib.decDigits, dif_pos (by omega)]; rfl
theorem dig_len (n : Nat) : (dig n).length ≤ 2 := by
  rw [dig]
  by_cases h1 : n < 10
  · rw [if_pos h1]; simp
  · rw [if_neg h1]; simp
def nameL (k : Int) : List UInt8 := if k = 1 then [114, 97, 110, 107] else if k = 2 then [109, 97, 114, 107] else if k = 3 then [115, 99, 111, 114, 101] else []
theorem name_len (k : Int) : (nameL k).length ≤ 5 := by
  unfold nameL
  by_cases h1 : k = 1
  · rw [if_pos h1]; simp
  · rw [if_neg h1]
    by_cases h2 : k = 2
    · rw [if_pos h2]; simp
    · rw [if_neg h2]
      by_cases h3 : k = 3
      · rw [if_pos h3]; simp
      · rw [if_neg h3]; simp
def marksL (t : List Int) : List UInt8 := t.flatMap fun m => 32 :: dig m.toNat
theorem marks_snoc (t : List Int) (m : Int) : marksL (t ++ [m]) = marksL t ++ ([32] ++ dig m.toNat) := by simp [marksL]
theorem marks_len : ∀ t : List Int, (marksL t).length ≤ 3 * t.length
  | [] => by simp [marksL]
  | m :: r => by
    have h1 := marks_len r
    have h2 := dig_len m.toNat
    have e : marksL (m :: r) = (32 :: dig m.toNat) ++ marksL r := by simp [marksL]
    rw [e, List.length_append, List.length_cons, List.length_cons]; omega
def btextL (k : Int) (l : List Int) : List UInt8 × Int := if aloneL k l = false then ([], 8) else (nameL k ++ marksL l, 0)
theorem btext_bad {k : Int} {l : List Int} (h : aloneL k l = false) : btextL k l = ([], 8) := by unfold btextL; rw [if_pos h]
theorem btext_ok {k : Int} {l : List Int} (h : aloneL k l = true) : btextL k l = (nameL k ++ marksL l, 0) := by unfold btextL; rw [if_neg (by rw [h]; simp)]
/-- The number below 20 that is written so, or -1. -/
def numberGo (s : List UInt8) : Nat → Nat → Int
  | 0, _ => -1
  | d + 1, n => if dig n = s then (n : Int) else numberGo s d (n + 1)
def numberL (s : List UInt8) : Int := numberGo s 20 0
theorem number_hit {s : List UInt8} {n : Nat} (hn : n < 20) (h : dig n = s) : numberGo s (20 - n) n = (n : Int) := by
  obtain ⟨d, hd⟩ : ∃ d, 20 - n = d + 1 := ⟨19 - n, by omega⟩
  rw [hd, numberGo, if_pos h]
theorem number_miss {s : List UInt8} {n : Nat} (hn : n < 20) (h : dig n ≠ s) : numberGo s (20 - n) n = numberGo s (20 - (n + 1)) (n + 1) := by
  obtain ⟨d, hd⟩ : ∃ d, 20 - n = d + 1 := ⟨19 - n, by omega⟩
  rw [hd, numberGo, if_neg h, show 20 - (n + 1) = d by omega]
theorem number_end {s : List UInt8} {n : Nat} (hn : ¬ n < 20) : numberGo s (20 - n) n = -1 := by
  rw [show 20 - n = 0 by omega, numberGo]
theorem alone_marks {k : Int} {l : List Int} (h : aloneL k l = true) : ∀ m ∈ l, 0 ≤ m ∧ m < 11 := by
  have hc : checkL k l (amongL k l) = 0 := by unfold aloneL at h; exact of_decide_eq_true h
  have hk := alone_kind hc
  unfold checkL at hc
  by_cases h0 : amongL k l < 1 ∨ 10 < amongL k l
  · rw [if_pos h0] at hc; cases hc
  · rw [if_neg h0] at hc
    cases hf : fineL k l (amongL k l) with
    | false => rw [hf, if_pos rfl] at hc; cases hc
    | true =>
      unfold fineL at hf
      intro m hm
      rcases hk with rfl | rfl | rfl
      · rw [if_neg (by decide), if_pos rfl, Bool.and_eq_true] at hf
        have := List.all_eq_true.1 hf.1 m hm
        unfold inB amongL at this
        rw [if_neg (by decide)] at this
        have := of_decide_eq_true this
        omega
      · rw [if_neg (by decide), if_neg (by decide), if_pos rfl, Bool.and_eq_true] at hf
        have := List.all_eq_true.1 hf.1 m hm
        unfold inB amongL at this
        rw [if_neg (by decide)] at this
        have := of_decide_eq_true this
        omega
      · rw [if_pos rfl, Bool.and_eq_true] at hf
        have := List.all_eq_true.1 hf.1 m hm
        exact of_decide_eq_true this
theorem turned_no {p : List Int} {i : Nat} (hi : i < p.length) (h : placeL p (i : Int) < 0) : turnedL p = false := by
  unfold turnedL
  have : (List.range p.length).all (fun i => decide ((i : Int) ∈ p)) = false := by
    cases hb : (List.range p.length).all (fun i => decide ((i : Int) ∈ p)) with
    | false => rfl
    | true =>
      have := List.all_eq_true.1 hb i (by simpa using hi)
      have := (place_nonneg _ _).2 (of_decide_eq_true this)
      omega
  rw [this, Bool.and_false]
theorem turned_yes {p : List Int} (h : ∀ i : Nat, i < p.length → 0 ≤ placeL p (i : Int)) : turnedL p = decide (1 ≤ p.length ∧ p.length ≤ 10) := by
  unfold turnedL
  have : (List.range p.length).all (fun i => decide ((i : Int) ∈ p)) = true := List.all_eq_true.2 fun i hi => decide_eq_true ((place_nonneg _ _).1 (h i (by simpa using hi)))
  rw [this, Bool.and_true]
end Go.Proofs.YtnhfbabenifbkaaGreatDoor
