/- Gains, ballot by ballot: what the least number of ballots says. Nothing of the program is named here. -/
import Derived.Test.YtncdaicaljpgfaaGreatM3
set_option linter.unusedVariables false
namespace Go.Proofs.YtncdaicaljpgfaaGreat
/-- How many of them reach the need. -/
def cntU : List Int → Int → Option Nat
  | [], need => if 0 < need then none else some 0
  | g :: r, need => if 0 < need then (if g = 0 then none else (cntU r (need - g)).map (· + 1)) else some 0
def expand : List (Int × Int) → List Int
  | [] => []
  | (g, c) :: r => List.replicate c.toNat g ++ expand r
theorem cntU_done : ∀ (l : List Int) {need : Int}, need ≤ 0 → cntU l need = some 0
  | [], need, h => by unfold cntU; rw [if_neg (by omega)]
  | g :: r, need, h => by unfold cntU; rw [if_neg (by omega)]
theorem cntU_zeros : ∀ (l : List Int) {need : Int}, (∀ x ∈ l, x = 0) → 0 < need → cntU l need = none
  | [], need, _, h => by unfold cntU; rw [if_pos h]
  | g :: r, need, h0, h => by unfold cntU; rw [if_pos h, if_pos (h0 g List.mem_cons_self)]
theorem cntU_cons {g : Int} {r : List Int} {need : Int} : cntU (g :: r) need = if 0 < need then (if g = 0 then none else (cntU r (need - g)).map (· + 1)) else some 0 := rfl
theorem cntU_rep {g : Int} (hg : 0 < g) {s : List Int} : ∀ (c : Nat) (need : Int), 0 < need → cntU (List.replicate c g ++ s) need = if need ≤ g * c then some (ceilD need g).toNat else (cntU s (need - g * c)).map (· + c)
  | 0, need, hn => by
    rw [if_neg (by simp; omega)]
    simp
  | c + 1, need, hn => by
    have ih := cntU_rep hg (s := s) c (need - g)
    rw [List.replicate_succ, List.cons_append, cntU_cons, if_pos hn, if_neg (by omega)]
    have e : g * ((c + 1 : Nat) : Int) = g * c + g := by rw [Int.natCast_succ, Int.mul_add, Int.mul_one]
    rw [e]
    by_cases h1 : 0 < need - g
    · rw [ih h1]
      by_cases h2 : need - g ≤ g * c
      · rw [if_pos h2, if_pos (by omega)]
        have h3 := ceilD_sub (d := 1) hg (Int.le_of_lt hn) (by omega)
        rw [Int.mul_one] at h3
        obtain ⟨h4, h5⟩ := ceilD_spec hg (Int.le_of_lt h1)
        have h6 : 0 < ceilD (need - g) g := by
          have : 0 * g < ceilD (need - g) g * g := by omega
          exact Int.lt_of_mul_lt_mul_right this (Int.le_of_lt hg)
        simp only [Option.map_some, Option.some.injEq]
        omega
      · rw [if_neg h2, if_neg (by omega), show need - (g * c + g) = need - g - g * c by omega]
        cases cntU s (need - g - g * c) with
        | none => rfl
        | some k => rfl
    · have hgc : 0 ≤ g * c := Int.mul_nonneg (Int.le_of_lt hg) (Int.natCast_nonneg c)
      rw [cntU_done _ (by omega), if_pos (by omega)]
      obtain ⟨h4, h5⟩ := ceilD_spec hg (Int.le_of_lt hn)
      have h6 : ceilD need g = 1 := ceil_uniq hg h4 h5 (by omega) (by omega)
      rw [h6]; rfl
theorem expand_mem : ∀ {l : List (Int × Int)} {x : Int}, x ∈ expand l → ∃ p ∈ l, p.1 = x
  | (g, c) :: r, x, h => by
    unfold expand at h
    rcases List.mem_append.1 h with h | h
    · exact ⟨_, List.mem_cons_self, (List.eq_of_mem_replicate h).symm⟩
    · obtain ⟨p, h1, h2⟩ := expand_mem h
      exact ⟨p, List.mem_cons_of_mem _ h1, h2⟩
theorem runR_U : ∀ (l : List (Int × Int)), (∀ p ∈ l, 0 ≤ p.1 ∧ 0 ≤ p.2) → l.Pairwise (fun x y => y.1 ≤ x.1) → ∀ need n : Int, runR l need n = match cntU (expand l) need with | some k => (n + k, true) | none => (0, false)
  | [], _, _, need, n => by
    unfold runR expand cntU
    by_cases h : 0 < need
    · rw [if_pos h, if_pos h]
    · rw [if_neg h, if_neg h]; simp
  | (g, c) :: r, h0, hp, need, n => by
    rw [List.pairwise_cons] at hp
    have ih := runR_U r (fun p hq => h0 p (List.mem_cons_of_mem _ hq)) hp.2
    obtain ⟨hg0, hc0⟩ := h0 (g, c) List.mem_cons_self
    have hg0 : 0 ≤ g := hg0
    have hc0 : 0 ≤ c := hc0
    unfold runR
    by_cases hn : 0 < need
    · rw [if_pos hn]
      by_cases hg : g = 0
      · rw [if_pos hg, cntU_zeros _ (fun x hx => ?_) hn]
        obtain ⟨p, h1, h2⟩ := expand_mem hx
        rcases List.mem_cons.1 h1 with rfl | h3
        · rw [← h2]; exact hg
        · have a := hp.1 p h3
          have b := (h0 p h1).1
          simp only at a
          omega
      · have hgp : 0 < g := by omega
        have hct : ((c.toNat : Nat) : Int) = c := Int.toNat_of_nonneg hc0
        rw [if_neg hg]
        unfold expand
        rw [cntU_rep hgp c.toNat need hn, hct]
        by_cases hc : need ≤ g * c
        · rw [if_pos hc, if_pos hc]
          obtain ⟨h4, h5⟩ := ceilD_spec hgp (Int.le_of_lt hn)
          have h6 : 0 < ceilD need g := by
            have : 0 * g < ceilD need g * g := by omega
            exact Int.lt_of_mul_lt_mul_right this (Int.le_of_lt hgp)
          simp only
          rw [Int.toNat_of_nonneg (by omega)]
        · rw [if_neg hc, if_neg hc, ih]
          cases cntU (expand r) (need - g * c) with
          | none => rfl
          | some k =>
            simp only [Option.map_some]
            congr 1
            rw [Int.natCast_add, hct]; omega
    · rw [if_neg hn, cntU_done _ (by omega)]; simp
/-- What the number says. -/
theorem cntU_some : ∀ (l : List Int) {need : Int} {n : Nat}, (∀ x ∈ l, 0 ≤ x) → cntU l need = some n → n ≤ l.length ∧ (∀ i, i < n → (l.take i).sum < need) ∧ need ≤ (l.take n).sum ∧ (need ≤ 0 → n = 0)
  | [], need, n, _, h => by
    unfold cntU at h
    split at h
    · cases h
    · simp only [Option.some.injEq] at h
      subst h
      exact ⟨Nat.le_refl _, fun i hi => by omega, by simp; omega, fun _ => rfl⟩
  | g :: r, need, n, h0, h => by
    unfold cntU at h
    split at h
    · rename_i hn
      split at h
      · cases h
      · rename_i hg
        obtain ⟨k, hk, rfl⟩ := Option.map_eq_some_iff.1 h
        obtain ⟨h1, h2, h3, h4⟩ := cntU_some r (fun x hx => h0 x (List.mem_cons_of_mem _ hx)) hk
        refine ⟨by simpa using h1, fun i hi => ?_, by rw [List.take_succ_cons, List.sum_cons]; omega, fun h => by omega⟩
        cases i with
        | zero => simpa using hn
        | succ i =>
          have := h2 i (by omega)
          rw [List.take_succ_cons, List.sum_cons]; omega
    · rename_i hn
      simp only [Option.some.injEq] at h
      subst h
      exact ⟨Nat.zero_le _, fun i hi => by omega, by simp; omega, fun _ => rfl⟩
theorem sum_zeros : ∀ (l : List Int), (∀ x ∈ l, x = 0) → l.sum = 0
  | [], _ => rfl
  | x :: r, h => by rw [List.sum_cons, h x List.mem_cons_self, sum_zeros r (fun y hy => h y (List.mem_cons_of_mem _ hy))]; rfl
theorem cntU_none : ∀ (l : List Int) {need : Int}, (∀ x ∈ l, 0 ≤ x) → l.Pairwise (fun x y => y ≤ x) → cntU l need = none → l.sum < need
  | [], need, _, _, h => by
    unfold cntU at h
    split at h
    · simpa using by assumption
    · cases h
  | g :: r, need, h0, hp, h => by
    rw [List.pairwise_cons] at hp
    unfold cntU at h
    split at h
    · rename_i hn
      split at h
      · rename_i hg
        have : (g :: r).sum = 0 := sum_zeros _ (fun x hx => by
          rcases List.mem_cons.1 hx with rfl | h1
          · exact hg
          · have a := hp.1 x h1
            have b := h0 x hx
            omega)
        omega
      · have hk : cntU r (need - g) = none := by simpa using h
        have := cntU_none r (fun x hx => h0 x (List.mem_cons_of_mem _ hx)) hp.2 hk
        rw [List.sum_cons]; omega
    · cases h
theorem cntU_less : ∀ (l : List Int) {need need' : Int} {n : Nat}, need' ≤ need → cntU l need = some n → ∃ m, cntU l need' = some m ∧ m ≤ n
  | l, need, need', n, hle, h => by
    by_cases h0 : 0 < need'
    · cases l with
      | nil =>
        unfold cntU at h
        rw [if_pos (by omega)] at h; cases h
      | cons g r =>
        unfold cntU at h
        rw [if_pos (by omega)] at h
        split at h
        · cases h
        · rename_i hg
          obtain ⟨k, hk, rfl⟩ := Option.map_eq_some_iff.1 h
          obtain ⟨m, hm, hmk⟩ := cntU_less r (need' := need' - g) (by omega) hk
          refine ⟨m + 1, ?_, by omega⟩
          show (if 0 < need' then (if g = 0 then none else (cntU r (need' - g)).map (· + 1)) else some 0) = _
          rw [if_pos h0, if_neg hg, hm]; rfl
    · exact ⟨0, cntU_done l (by omega), Nat.zero_le _⟩
end Go.Proofs.YtncdaicaljpgfaaGreat
