/- Numbers and what they are written as tell each other: the plain laws. -/
import Derived.Test.YtefkhjbgkaknmaaDoorPlN
set_option linter.unusedVariables false
namespace Go.Proofs.YtefkhjbgkaknmaaDoor

theorem decVal_snoc (a : Nat) (l : List UInt8) (c : UInt8) : decVal a (l ++ [c]) = 10 * decVal a l + (c.toNat - 48) := by
  unfold decVal; rw [List.foldl_append]; rfl
theorem dg_nat (u : Nat) : (UInt8.ofNat (48 + u % 10)).toNat = 48 + u % 10 := by
  simp; omega
theorem dec_facts (u : Nat) : decVal 0 (Lib.decDigits u) = u ∧ (Lib.decDigits u).all digB = true ∧ Lib.decDigits u ≠ [] ∧ (0 < u → (Lib.decDigits u).head?.map UInt8.toNat ≠ some 48) := by
  induction u using Nat.strongRecOn with
  | _ u ih =>
    rw [Lib.decDigits]
    by_cases h : u < 10
    · rw [dif_pos h]
      have hd := dg_nat u
      rw [Nat.mod_eq_of_lt h] at hd
      refine ⟨?_, ?_, by simp, fun hu => ?_⟩
      · rw [decVal_cons, decVal_nil, hd]; omega
      · rw [List.all_cons, digB, hd]; simp; omega
      · show some _ ≠ some 48
        rw [hd]; simp; omega
    · rw [dif_neg h]
      obtain ⟨h1, h2, h3, h4⟩ := ih (u / 10) (by omega)
      have hd := dg_nat u
      refine ⟨?_, ?_, by simp, fun hu => ?_⟩
      · rw [decVal_snoc, h1, hd]; omega
      · rw [List.all_append, h2, List.all_cons, digB, hd]; simp; omega
      · rw [List.head?_append]
        cases hq : (Lib.decDigits (u / 10)).head? with
        | none => exact absurd (List.head?_eq_none_iff.1 hq) h3
        | some c =>
          have := h4 (by omega)
          rw [hq] at this
          exact this
theorem dec_back : ∀ (n : Nat) (d : List UInt8), d.length = n + 1 → d.all digB = true → (d.head?.map UInt8.toNat = some 48 → n = 0) → Lib.decDigits (decVal 0 d) = d
  | 0, d, hl, hd, hz => by
    match d, hl with
    | [c], _ =>
      simp [digB] at hd
      rw [decVal_cons, decVal_nil, Lib.decDigits, dif_pos (by omega)]
      congr 1
      apply UInt8.toNat_inj.1
      simp; omega
  | n + 1, d, hl, hd, hz => by
    have hne : d ≠ [] := fun h => by rw [h] at hl; simp at hl
    have hsp := List.dropLast_concat_getLast hne
    generalize d.getLast hne = c at hsp
    generalize hm : d.dropLast = m at hsp
    have hml : m.length = n + 1 := by rw [← hm, List.length_dropLast, hl]; rfl
    rw [← hsp, List.all_append, Bool.and_eq_true] at hd
    obtain ⟨hd1, hd2⟩ := hd
    simp [digB] at hd2
    have hhd : d.head? = m.head? := by
      rw [← hsp, List.head?_append]
      cases hq : m.head? with
      | none => rw [List.head?_eq_none_iff.1 hq] at hml; simp at hml
      | some x => rfl
    have hz' : m.head?.map UInt8.toNat ≠ some 48 := fun h => by
      have := hz (by rw [hhd]; exact h)
      omega
    have ih := dec_back n m hml hd1 (fun h => absurd h hz')
    have hV : 0 < decVal 0 m := by
      rcases Nat.eq_zero_or_pos (decVal 0 m) with h0 | h0
      · rw [h0] at ih
        rw [← ih] at hz'
        exact absurd (by rw [Lib.decDigits, dif_pos (by omega)]; rfl) hz'
      · exact h0
    rw [← hsp, decVal_snoc, Lib.decDigits, dif_neg (by omega), show (10 * decVal 0 m + (c.toNat - 48)) / 10 = decVal 0 m by omega, ih]
    congr 2
    apply UInt8.toNat_inj.1
    rw [dg_nat]; omega

theorem neg_itoa (n : Int) : magL (Lib.itoa n) = Lib.decDigits n.natAbs ∧ negL (Lib.itoa n) = decide (n < 0) ∧ formL (Lib.itoa n) = true := by
  obtain ⟨h1, h2, h3, h4⟩ := dec_facts n.natAbs
  by_cases hn : n < 0
  · have e : Lib.itoa n = 45 :: Lib.decDigits n.natAbs := by rw [Lib.itoa, if_pos hn]
    have em : magL (Lib.itoa n) = Lib.decDigits n.natAbs := by rw [e]; simp [magL]
    refine ⟨em, by rw [e]; simp [negL, hn], ?_⟩
    have := h4 (by omega)
    simp only [formL, em, h2]
    simp [h3, this]
  · have e : Lib.itoa n = Lib.decDigits n.natAbs := by rw [Lib.itoa, if_neg hn]; congr 1; omega
    have hh : (Lib.decDigits n.natAbs).head?.map UInt8.toNat ≠ some 45 := by
      cases hq : Lib.decDigits n.natAbs with
      | nil => exact absurd hq h3
      | cons c r =>
        rw [hq, List.all_cons, Bool.and_eq_true] at h2
        have := h2.1
        simp [digB] at this
        simp; omega
    have em : magL (Lib.itoa n) = Lib.decDigits n.natAbs := by rw [e, magL, if_neg hh]
    refine ⟨em, by rw [e]; simp only [negL]; rw [decide_eq_false hh, decide_eq_false hn], ?_⟩
    simp only [formL, em, h2]
    rcases Nat.eq_zero_or_pos n.natAbs with h0 | h0
    · have : Lib.itoa n = [48] := by rw [e, h0, Lib.decDigits, dif_pos (by omega)]; rfl
      rw [this]; simp [h3]
    · have := h4 h0
      simp [h3, this]

theorem num_itoa_small (n : Int) (h0 : -4611686018427387904 ≤ n) (h1 : n ≤ 4611686018427387904) : numL (Lib.itoa n) = (n, 0) := by
  obtain ⟨e1, e2, e3⟩ := neg_itoa n
  have hv := (dec_facts n.natAbs).1
  unfold numL
  rw [e3, e1, hv, e2, if_neg (by simp), if_neg (by omega)]
  by_cases hn : n < 0
  · rw [decide_eq_true hn]; simp; omega
  · rw [decide_eq_false hn]; simp; omega
theorem num_itoa_great (n : Int) (h : ¬ (-4611686018427387904 ≤ n ∧ n ≤ 4611686018427387904)) : numL (Lib.itoa n) = (0, 30) := by
  obtain ⟨e1, e2, e3⟩ := neg_itoa n
  have hv := (dec_facts n.natAbs).1
  unfold numL
  rw [e3, e1, hv, if_neg (by simp), if_pos (by omega)]
theorem num_zero (l : List UInt8) (h : (numL l).2 ≠ 0) : (numL l).1 = 0 := by
  unfold numL at h ⊢
  by_cases h1 : formL l = false
  · rw [if_pos h1]
  · rw [if_neg h1] at h ⊢
    by_cases h2 : 4611686018427387904 < decVal 0 (magL l)
    · rw [if_pos h2]
    · rw [if_neg h2] at h; exact absurd rfl h
theorem num_back (l : List UInt8) (h : (numL l).2 = 0) : Lib.itoa (numL l).1 = l ∧ -4611686018427387904 ≤ (numL l).1 ∧ (numL l).1 ≤ 4611686018427387904 := by
  unfold numL at h ⊢
  by_cases h1 : formL l = false
  · rw [if_pos h1] at h; cases h
  · rw [if_neg h1] at h ⊢
    by_cases h2 : 4611686018427387904 < decVal 0 (magL l)
    · rw [if_pos h2] at h; cases h
    · rw [if_neg h2]
      have hf : formL l = true := by simpa using h1
      simp only [formL, Bool.and_eq_true, decide_eq_true_eq, Bool.not_eq_true', Bool.and_eq_false_iff, decide_eq_false_iff_not] at hf
      obtain ⟨⟨hm, hd⟩, hz⟩ := hf
      obtain ⟨k, hk⟩ : ∃ k, (magL l).length = k + 1 := ⟨(magL l).length - 1, by have := List.length_pos_iff.2 hm; omega⟩
      have hle : (magL l).length ≤ l.length := by
        unfold magL; split
        · simp
        · exact Nat.le_refl _
      have hb := dec_back k (magL l) hk hd (fun h48 => by
        rcases hz with hz | hz
        · exact absurd h48 hz
        · omega)
      by_cases hn : negL l = true
      · rw [hn]
        simp only [negL, decide_eq_true_eq] at hn
        have hcons : l = 45 :: magL l := by
          cases l with
          | nil => simp at hn
          | cons c r =>
            simp at hn
            have : c = 45 := UInt8.toNat_inj.1 (by rw [hn]; rfl)
            subst this
            simp [magL]
        have hpos : 0 < decVal 0 (magL l) := by
          rcases Nat.eq_zero_or_pos (decVal 0 (magL l)) with h0 | h0
          · exfalso
            rw [h0] at hb
            have h48 : (magL l).head?.map UInt8.toNat = some 48 := by rw [← hb, Lib.decDigits, dif_pos (by omega)]; rfl
            rcases hz with hz | hz
            · exact hz h48
            · have hll : l.length = (magL l).length + 1 := congrArg List.length hcons
              omega
          · exact h0
        refine ⟨?_, by first | (simp; done) | omega | (simp; omega), by first | (simp; done) | omega | (simp; omega)⟩
        simp only [if_true]
        rw [Lib.itoa, if_pos (by omega), Int.natAbs_neg, Int.natAbs_natCast, hb]
        exact hcons.symm
      · rw [if_neg hn]
        refine ⟨?_, by first | (simp; done) | omega | (simp; omega), by first | (simp; done) | omega | (simp; omega)⟩
        have em : magL l = l := by
          simp only [negL, decide_eq_true_eq] at hn
          rw [magL, if_neg hn]
        simp only
        rw [Lib.itoa, if_neg (by omega), Int.toNat_natCast, hb, em]
end Go.Proofs.YtefkhjbgkaknmaaDoor
