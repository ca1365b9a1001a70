/- Numbers as layer 2 reads and writes them, as plain functions on lists of bytes. Nothing of the program is named here. -/
import Derived.Test.YtefkhjbgkaknmaaDoorKit
import Derived.Test.YtefkhjbgkaknmaaDoorPl2
import Derived.Lib.ItoaNum
import Derived.Lib.AtoiAll
set_option linter.unusedVariables false
namespace Go.Proofs.YtefkhjbgkaknmaaDoor
def digB (c : UInt8) : Bool := 48 ≤ c.toNat && c.toNat ≤ 57
def decVal (a : Nat) (l : List UInt8) : Nat := l.foldl (fun a c => 10 * a + (c.toNat - 48)) a
theorem decVal_nil (a : Nat) : decVal a [] = a := by unfold decVal; exact List.foldl_nil
theorem decVal_cons (a : Nat) (c : UInt8) (r : List UInt8) : decVal a (c :: r) = decVal (10 * a + (c.toNat - 48)) r := by unfold decVal; exact List.foldl_cons ..
/-- What stands behind a sign. -/
def magL (l : List UInt8) : List UInt8 := if l.head?.map UInt8.toNat = some 45 then l.drop 1 else l
def negL (l : List UInt8) : Bool := decide (l.head?.map UInt8.toNat = some 45)
def formL (l : List UInt8) : Bool :=
  decide (magL l ≠ []) && (magL l).all digB && !(decide ((magL l).head?.map UInt8.toNat = some 48) && decide (1 < l.length))
def numL (l : List UInt8) : Int × Int :=
  if formL l = false then (0, 11)
  else if 4611686018427387904 < decVal 0 (magL l) then (0, 30)
  else (if negL l then -(decVal 0 (magL l) : Int) else (decVal 0 (magL l) : Int), 0)

theorem decVal_ge : ∀ (l : List UInt8) (a : Nat), a ≤ decVal a l
  | [], a => by rw [decVal_nil]; exact Nat.le_refl _
  | c :: r, a => by rw [decVal_cons]; have := decVal_ge r (10 * a + (c.toNat - 48)); omega
theorem decVal_ge10 (c : UInt8) (r : List UInt8) (a : Nat) : 10 * a ≤ decVal a (c :: r) := by rw [decVal_cons]; have := decVal_ge r (10 * a + (c.toNat - 48)); omega
theorem parse_eq : ∀ (l : List UInt8) (a : Nat), l.all digB = true → a < 18446744073709551616 → Lib.parseUint10 a l = if decVal a l < 18446744073709551616 then .ok (decVal a l) else .range
  | [], a, _, ha => by rw [decVal_nil, if_pos ha]; rfl
  | c :: r, a, hl, ha => by
    rw [List.all_cons, Bool.and_eq_true] at hl
    obtain ⟨h1, h2⟩ := hl
    simp [digB] at h1
    have hge := decVal_ge10 c r a
    rw [Lib.parseUint10, if_pos h1]
    by_cases hb : 1844674407370955162 ≤ a
    · rw [if_pos hb, if_neg (by omega)]
    · rw [if_neg hb]
      have hge2 := decVal_ge r (10 * a + (c.toNat - 48))
      by_cases hb2 : 18446744073709551616 ≤ a * 10 + (c.toNat - 48)
      · rw [if_pos hb2, if_neg (by rw [decVal_cons]; omega)]
      · rw [if_neg hb2, parse_eq r _ h2 (by omega), decVal_cons, Nat.mul_comm]

/-- How strconv.Atoi ends on what layer 2 lets pass. -/
theorem atoi_ok (l : List UInt8) (hf : formL l = true) (h : decVal 0 (magL l) ≤ 4611686018427387904) : Lib.atoiAll l = .ok (if negL l then -(decVal 0 (magL l) : Int) else (decVal 0 (magL l) : Int)) := by
  simp only [formL, Bool.and_eq_true, decide_eq_true_eq] at hf
  obtain ⟨⟨h1, h2⟩, _⟩ := hf
  cases l with
  | nil => exact absurd rfl h1
  | cons c r =>
    have hp := parse_eq (magL (c :: r)) 0 h2 (by decide)
    rw [if_pos (by omega)] at hp
    by_cases hc : c.toNat = 45
    · have e : magL (c :: r) = r := by simp [magL, hc]
      rw [e] at hp h1 h
      simp only [Lib.atoiAll, hc, e, Lib.parseMag]
      simp [hp, h1, negL, hc]
      omega
    · have e : magL (c :: r) = c :: r := by simp [magL, hc]
      rw [e] at hp h2 h
      have h3 : c.toNat ≠ 43 := by
        rw [List.all_cons, Bool.and_eq_true] at h2; have := h2.1; simp [digB] at this; omega
      simp only [Lib.atoiAll, hc, e, Lib.parseMag, h3]
      simp [hp, negL, hc]
      omega
theorem atoi_great (l : List UInt8) (hf : formL l = true) (h : 4611686018427387904 < decVal 0 (magL l)) : Lib.atoiAll l = .range ∨ ∃ v, Lib.atoiAll l = .ok v ∧ (v < -4611686018427387904 ∨ 4611686018427387904 < v) := by
  simp only [formL, Bool.and_eq_true, decide_eq_true_eq] at hf
  obtain ⟨⟨h1, h2⟩, _⟩ := hf
  cases l with
  | nil => exact absurd rfl h1
  | cons c r =>
    have hp := parse_eq (magL (c :: r)) 0 h2 (by decide)
    by_cases hc : c.toNat = 45
    · have e : magL (c :: r) = r := by simp [magL, hc]
      rw [e] at hp h1 h
      by_cases h64 : decVal 0 r < 18446744073709551616
      · rw [if_pos h64] at hp
        by_cases h63 : 9223372036854775808 < decVal 0 r
        · left; simp only [Lib.atoiAll, hc, Lib.parseMag]; simp [hp, h1, h63]
        · right; refine ⟨-(decVal 0 r : Int), ?_, by left; omega⟩
          simp only [Lib.atoiAll, hc, Lib.parseMag]; simp [hp, h1, h63]
      · rw [if_neg h64] at hp
        left; simp only [Lib.atoiAll, hc, Lib.parseMag]; simp [hp, h1]
    · have e : magL (c :: r) = c :: r := by simp [magL, hc]
      rw [e] at hp h2 h
      have h3 : c.toNat ≠ 43 := by
        rw [List.all_cons, Bool.and_eq_true] at h2; have := h2.1; simp [digB] at this; omega
      by_cases h64 : decVal 0 (c :: r) < 18446744073709551616
      · rw [if_pos h64] at hp
        by_cases h63 : 9223372036854775808 ≤ decVal 0 (c :: r)
        · left; simp only [Lib.atoiAll, hc, Lib.parseMag, h3]; simp [hp, h63]
        · right; refine ⟨(decVal 0 (c :: r) : Int), ?_, by right; omega⟩
          simp only [Lib.atoiAll, hc, Lib.parseMag, h3]; simp [hp, h63]
      · rw [if_neg h64] at hp
        left; simp only [Lib.atoiAll, hc, Lib.parseMag, h3]; simp [hp]
end Go.Proofs.YtefkhjbgkaknmaaDoor
